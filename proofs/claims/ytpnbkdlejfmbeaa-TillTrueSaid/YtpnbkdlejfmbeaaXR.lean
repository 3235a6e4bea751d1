import Derived.Test.YtpnbkdlejfmbeaaXU
set_option linter.unusedSimpArgs false
set_option linter.unusedVariables false
set_option linter.all false
/- A ticket of which more is known: no truth is new, and nothing is told less exactly. -/
namespace Go.Ti
open Go.W (gt gt_of)
def narT (w : Bool) (x : Tick) : Tick := if w then ⟨⟨min x.bought.hi (x.bought.lo + 1), x.bought.hi⟩, x.hut, x.door⟩ else ⟨x.bought, x.hut, ⟨min x.door.hi (x.door.lo + 1), x.door.hi⟩⟩
def narX (X : Till) (w : Bool) (a : Nat) : Till := ⟨⟨X.tk.huts, X.tk.l.set a (narT w (gt X.tk.l a))⟩, X.price, X.fine, X.wait⟩
def moreX (X : Till) (b : Int) : Till := ⟨X.tk, X.price, min 100 (X.fine + b % 9), min 100 (X.wait + b % 7)⟩
def inS (a b : Sp) : Bool := decide (a.lo ≥ b.lo ∧ a.hi ≤ b.hi)
section
variable {X : Till} {w : Bool} {a : Nat}
theorem nar_len : (narX X w a).tk.l.length = X.tk.l.length := by simp [narX]
theorem nar_at (ha : a < X.tk.l.length) (i : Nat) : gt (narX X w a).tk.l i = if a = i then narT w (gt X.tk.l a) else gt X.tk.l i := gt_set _ _ _ _ ha
theorem narT_in {x : Tick} (hb : x.bought.lo ≤ x.bought.hi) (hd : x.door.lo ≤ x.door.hi) : (x.bought.lo ≤ (narT w x).bought.lo ∧ (narT w x).bought.lo ≤ (narT w x).bought.hi ∧ (narT w x).bought.hi = x.bought.hi) ∧ (x.door.lo ≤ (narT w x).door.lo ∧ (narT w x).door.lo ≤ (narT w x).door.hi ∧ (narT w x).door.hi = x.door.hi) ∧ (narT w x).hut = x.hut := by
  unfold narT; cases w <;> simp <;> omega
theorem nar_valid (h : tksB X.tk = true) (ha : a < X.tk.l.length) : tksB (narX X w a).tk = true := by
  obtain ⟨h1, h2, h3⟩ := tks_num h
  refine (tksB_iff _).2 ⟨h1, by rw [nar_len]; exact h2, fun i hi => ?_⟩
  rw [nar_len] at hi
  rw [nar_at ha]
  split
  · rename_i e; subst e
    have n := h3 a ha
    have q := narT_in (w := w) (x := gt X.tk.l a) n.2.1.2.1 n.2.2.2.1
    simp only [tickB, hutT, spanT, Bool.and_eq_true, decide_eq_true_eq]
    have hh : (narX X w a).tk.huts = X.tk.huts := rfl
    rw [hh, q.2.2]
    refine ⟨⟨by omega, by omega⟩, by omega⟩
  · have n := h3 i hi
    simp only [tickB, hutT, spanT, Bool.and_eq_true, decide_eq_true_eq]
    have hh : (narX X w a).tk.huts = X.tk.huts := rfl
    rw [hh]
    refine ⟨⟨by omega, by omega⟩, by omega⟩
theorem nar_sol (h : tksB X.tk = true) (ha : a < X.tk.l.length) {t : Tru} (ht : t ∈ allT (narX X w a).tk) : t ∈ allT X.tk := by
  have hs := mem_allT.1 ht
  have h3 := (tks_num h).2.2
  have hut : ∀ i, i < X.tk.l.length → (gt (narX X w a).tk.l i).hut = (gt X.tk.l i).hut := fun i hi => by
    rw [nar_at ha]
    split
    · rename_i e; subst e
      have n := h3 a ha
      exact (narT_in (w := w) n.2.1.2.1 n.2.2.2.1).2.2
    · rfl
  refine mem_allT.2 ⟨fun i hi => ?_, fun i j hi hj hij hh => ?_, fun i hi => hs.rest i (by rw [nar_len]; exact hi)⟩
  · have hp := hs.pair i (by rw [nar_len]; exact hi)
    rw [nar_at ha] at hp
    split at hp
    · rename_i e; subst e
      have n := h3 a ha
      have q := narT_in (w := w) (x := gt X.tk.l a) n.2.1.2.1 n.2.2.2.1
      rw [pairP_iff] at hp ⊢
      omega
    · exact hp
  · exact hs.apart i j (by rw [nar_len]; exact hi) (by rw [nar_len]; exact hj) hij (by rw [hut i hi, hut j hj]; exact hh)
end
theorem span_sub {g : Tru → Int} {l l' : List Tru} (hs : ∀ t, t ∈ l' → t ∈ l) (hne : l' ≠ []) : (spanS g l).lo ≤ (spanS g l').lo ∧ (spanS g l').hi ≤ (spanS g l).hi := by
  have hne2 : l ≠ [] := fun e => by
    cases l' with
    | nil => exact hne rfl
    | cons x l' => have := hs x (by simp); rw [e] at this; cases this
  obtain ⟨⟨t1, m1, e1⟩, ⟨t2, m2, e2⟩, _⟩ := spanS_spec g hne
  obtain ⟨_, _, h⟩ := spanS_spec g hne2
  have a1 := h t1 (hs _ m1)
  have a2 := h t2 (hs _ m2)
  omega
section
variable {X : Till} {w : Bool} {a : Nat}
theorem tks_true {T : Tks} (hv : tksB T = true) : tksE T true = if (allT T).isEmpty then 10 else 0 := by
  unfold tksE; rw [if_neg (by rw [hv]; simp), if_neg (by simp)]
theorem tks_0 {T : Tks} (hv : tksB T = true) (h : tksE T true = 0) : allT T ≠ [] := (tksE_zero h).2.2
theorem nar_e (h : tksB X.tk = true) (ha : a < X.tk.l.length) (he : tksE (narX X w a).tk true = 0) : tksE X.tk true = 0 := by
  have hv' := nar_valid (w := w) h ha
  have hne := tks_0 hv' he
  rw [tks_true h, if_neg]
  rw [List.isEmpty_iff]
  intro e
  cases hl : allT (narX X w a).tk with
  | nil => exact hne hl
  | cons t l =>
    have : t ∈ allT X.tk := nar_sol h ha (by rw [hl]; simp)
    rw [e] at this; cases this
theorem any_sub {l l' : List Tru} (hs : ∀ t, t ∈ l' → t ∈ l) {f : Tru → Bool} (h : l'.any f = true) : l.any f = true := by
  obtain ⟨t, ht, hf⟩ := List.any_eq_true.1 h
  exact List.any_eq_true.2 ⟨t, hs t ht, hf⟩
theorem any_some {l : List Tru} (hne : l ≠ []) (f : Tru → Bool) : l.any f = true ∨ l.any (fun t => !f t) = true := by
  cases l with
  | nil => exact absurd rfl hne
  | cons x l =>
    cases hf : f x
    · right; exact List.any_eq_true.2 ⟨x, by simp, by simp [hf]⟩
    · left; exact List.any_eq_true.2 ⟨x, by simp, hf⟩
theorem turn_0 {T : Tks} {n : Int} (hn : isT T n = true) (he : tksE T true = 0) : TurnOut T n = (gradeI ((allT T).any fun t => turnT T.l.length t n.toNat) ((allT T).any fun t => !turnT T.l.length t n.toNat), 0) := by
  unfold TurnOut; rw [hn, if_neg (by rw [he]; simp)]
theorem grade_2 {a b : Bool} : gradeI a b = 2 ↔ a = true ∧ b = false := by cases a <;> cases b <;> decide
theorem grade_0 {a b : Bool} : gradeI a b = 0 ↔ a = false ∧ b = true := by cases a <;> cases b <;> decide
theorem nar_turn (h : tksB X.tk = true) (ha : a < X.tk.l.length) (he : tksE (narX X w a).tk true = 0) {n : Int} (hn : isT X.tk n = true) :
    ((TurnOut X.tk n).1 = 2 → (TurnOut (narX X w a).tk n).1 = 2) ∧ ((TurnOut X.tk n).1 = 0 → (TurnOut (narX X w a).tk n).1 = 0) := by
  have he0 := nar_e h ha he
  have hn' : isT (narX X w a).tk n = true := by unfold isT; rw [nar_len]; exact hn
  have hne := tks_0 (nar_valid (w := w) h ha) he
  rw [turn_0 hn he0, turn_0 hn' he, nar_len]
  simp only [grade_2, grade_0]
  have hs : ∀ t, t ∈ allT (narX X w a).tk → t ∈ allT X.tk := fun t => nar_sol h ha
  constructor
  · rintro ⟨_, h2⟩
    have h3 : ((allT (narX X w a).tk).any fun t => !turnT X.tk.l.length t n.toNat) = false := by
      cases hc : ((allT (narX X w a).tk).any fun t => !turnT X.tk.l.length t n.toNat) with
      | false => rfl
      | true => rw [any_sub hs hc] at h2; cases h2
    refine ⟨?_, h3⟩
    rcases any_some hne (fun t => turnT X.tk.l.length t n.toNat) with h4 | h4
    · exact h4
    · rw [h3] at h4; cases h4
  · rintro ⟨h1, _⟩
    have h3 : ((allT (narX X w a).tk).any fun t => turnT X.tk.l.length t n.toNat) = false := by
      cases hc : ((allT (narX X w a).tk).any fun t => turnT X.tk.l.length t n.toNat) with
      | false => rfl
      | true => rw [any_sub hs hc] at h1; cases h1
    refine ⟨h3, ?_⟩
    rcases any_some hne (fun t => turnT X.tk.l.length t n.toNat) with h4 | h4
    · rw [h3] at h4; cases h4
    · exact h4
theorem nar_fine (hb : tillB X = true) (ha : a < X.tk.l.length) (he : tksE (narX X w a).tk true = 0) {n : Int} (hn : isT X.tk n = true) : inS (fineSp (narX X w a) n) (fineSp X n) = true := by
  have ht := nar_turn (tillB_num hb).1 ha he hn
  have hf := (tillB_num hb).2.2.1
  refine decide_eq_true ?_
  unfold fineSp
  simp only [show (narX X w a).fine = X.fine from rfl]
  by_cases h2 : (TurnOut X.tk n).1 = 2
  · have q := ht.1 h2
    rw [h2, q]; simp
  · by_cases h0 : (TurnOut X.tk n).1 = 0
    · have q := ht.2 h0
      rw [h0, q]; simp
    · rw [if_pos h0, if_neg h2]
      constructor
      · split <;> omega
      · split <;> omega
theorem minutes_0 {T : Tks} {n : Int} (hn : isT T n = true) (he : tksE T true = 0) : MinutesOut T n = (spanS (fun t => (t n.toNat).1) (allT T), spanS (fun t => (t n.toNat).2) (allT T), 0) := by
  unfold MinutesOut; rw [hn, if_neg (by rw [he]; simp)]
theorem nar_waits (h : tksB X.tk = true) (ha : a < X.tk.l.length) (he : tksE (narX X w a).tk true = 0) {n : Int} (hn : isT X.tk n = true) : (waitsSp X.tk n).lo ≤ (waitsSp (narX X w a).tk n).lo ∧ (waitsSp (narX X w a).tk n).hi ≤ (waitsSp X.tk n).hi := by
  have he0 := nar_e h ha he
  have hn' : isT (narX X w a).tk n = true := by unfold isT; rw [nar_len]; exact hn
  have hne := tks_0 (nar_valid (w := w) h ha) he
  have hs : ∀ t, t ∈ allT (narX X w a).tk → t ∈ allT X.tk := fun t => nar_sol h ha
  have s1 := span_sub (g := fun t => (t n.toNat).1) hs hne
  have s2 := span_sub (g := fun t => (t n.toNat).2) hs hne
  have m1 := minutes_num X.tk n
  have m2 := minutes_num (narX X w a).tk n
  unfold waitsSp
  rw [minutes_0 hn he0] at m1 ⊢
  rw [minutes_0 hn' he] at m2 ⊢
  simp only at m1 m2 ⊢
  omega
theorem mul_mono {c x y : Int} (hc : 0 ≤ c) (h : x ≤ y) : c * x ≤ c * y := Int.mul_le_mul_of_nonneg_left h hc
theorem nar_back (hb : tillB X = true) (ha : a < X.tk.l.length) (he : tksE (narX X w a).tk true = 0) {n : Int} (hn : isT X.tk n = true) : inS (backSp (narX X w a) n) (backSp X n) = true := by
  have hw := nar_waits (tillB_num hb).1 ha he hn
  have hwt := (tillB_num hb).2.2.2
  exact decide_eq_true ⟨mul_mono hwt.1 hw.1, mul_mono hwt.1 hw.2⟩
theorem nar_fines (hb : tillB X = true) (ha : a < X.tk.l.length) (he : tksE (narX X w a).tk true = 0) : inS ⟨(WrongOut (narX X w a).tk).1.lo * X.fine, (WrongOut (narX X w a).tk).1.hi * X.fine⟩ ⟨(WrongOut X.tk).1.lo * X.fine, (WrongOut X.tk).1.hi * X.fine⟩ = true := by
  have h := (tillB_num hb).1
  have hf := (tillB_num hb).2.2.1
  have he0 := nar_e h ha he
  have hne := tks_0 (nar_valid (w := w) h ha) he
  have hs : ∀ t, t ∈ allT (narX X w a).tk → t ∈ allT X.tk := fun t => nar_sol h ha
  have s1 := span_sub (g := oddT X.tk.l.length) hs hne
  have e1 : (WrongOut X.tk).1 = spanS (oddT X.tk.l.length) (allT X.tk) := by unfold WrongOut; rw [if_neg (by rw [he0]; simp)]
  have e2 : (WrongOut (narX X w a).tk).1 = spanS (oddT X.tk.l.length) (allT (narX X w a).tk) := by unfold WrongOut; rw [if_neg (by rw [he]; simp), nar_len]
  rw [e1, e2]
  exact decide_eq_true ⟨Int.mul_le_mul_of_nonneg_right s1.1 hf.1, Int.mul_le_mul_of_nonneg_right s1.2 hf.1⟩
theorem nar_can (hb : tillB X = true) (ha : a < X.tk.l.length) (he : tksE (narX X w a).tk true = 0) {n m : Int} (hn : isT X.tk n = true) {k : Nat} (hc : canOf (narX X w a) n m k = true) : canOf X n m k = true := by
  have hn' : isT (narX X w a).tk n = true := by unfold isT; rw [nar_len]; exact hn
  unfold canOf at hc ⊢
  split at hc
  · simp only [priceCan, Bool.and_eq_true] at hc ⊢
    exact ⟨hc.1, hn⟩
  · simp only [fineCan, Bool.and_eq_true, decide_eq_true_eq] at hc ⊢
    refine ⟨fun e => hc.1 ((nar_turn (tillB_num hb).1 ha he hn).1 e), hc.2.1, hn⟩
  · have hw := nar_waits (tillB_num hb).1 ha he hn
    obtain ⟨k, hk, hm⟩ := List.any_eq_true.1 hc
    have h1 := mem_rng.1 hk
    exact List.any_eq_true.2 ⟨k, mem_rng.2 ⟨by omega, by omega⟩, hm⟩
theorem check_4 {l : List Ent} : (CheckOut X l).2.2 = 4 ↔ toldE X l = 0 ∧ brokL X l l.length = [] := by
  unfold CheckOut
  have ht : toldE X l = 0 ∨ toldE X l = 1 ∨ toldE X l = 2 ∨ toldE X l = 3 ∨ toldE X l = 10 := by
    unfold toldE tillE tksE
    repeat' split
    all_goals simp
  split
  · rename_i h; simp only; constructor
    · intro h4; omega
    · rintro ⟨h1, _⟩; exact absurd h1 h
  · rename_i h
    have h0 : toldE X l = 0 := Classical.not_not.1 h
    split
    · rename_i hb; simp [h0, hb]
    · rename_i hb; simp [hb]
theorem nar_check (hb : tillB X = true) (ha : a < X.tk.l.length) (he : tksE (narX X w a).tk true = 0) {l : List Ent} (hE : tillE X l true = 0) (h4 : (CheckOut (narX X w a) l).2.2 = 4) : (CheckOut X l).2.2 = 4 := by
  have hv := (tillB_num hb).1
  have he0 := nar_e hv ha he
  obtain ⟨_, hn⟩ := check_4.1 h4
  have hz := brok_nil hn
  have hent := (tillE_all hE).2.2.2
  refine check_4.2 ⟨?_, ?_⟩
  · unfold toldE; rw [if_neg (by rw [hE]; simp)]; exact he0
  · unfold brokL
    rw [List.filter_eq_nil_iff]
    intro i hi
    have hi := List.mem_range.1 hi
    have h1 := hz i hi
    have hb2 : bookedB (l.take i) (gt l i).ticket (gt l i).kind = false := by
      unfold ruleI at h1
      cases hbk : bookedB (l.take i) (gt l i).ticket (gt l i).kind with
      | false => rfl
      | true => rw [hbk, if_pos rfl] at h1; omega
    have hti : isT X.tk (gt l i).ticket = true := by
      have := hent i hi
      unfold entB at this
      rw [Bool.and_eq_true] at this
      exact this.1
    have hc := nar_can hb ha he hti (rule_zero h1)
    have : ruleI X l i = 0 := by
      unfold ruleI; rw [hb2, if_neg (by simp), if_neg (by rw [hc]; simp)]
    simp [this]
theorem tillB_of {X : Till} (h : tksB X.tk = true) (h1 : 0 ≤ X.price ∧ X.price ≤ 100) (h2 : 0 ≤ X.fine ∧ X.fine ≤ 100) (h3 : 0 ≤ X.wait ∧ X.wait ≤ 100) : tillB X = true := by
  unfold tillB inB
  rw [h, decide_eq_true h1, decide_eq_true h2, decide_eq_true h3]; rfl
theorem nar_tillE (hb : tillB X = true) (ha : a < X.tk.l.length) (l : List Ent) (is : Bool) : tillE (narX X w a) l is = tillE X l is := by
  have hb' : tillB (narX X w a) = true := by
    have h := tillB_num hb
    have hv := nar_valid (w := w) h.1 ha
    exact tillB_of hv h.2.1 h.2.2.1 h.2.2.2
  have hent : entB (narX X w a) = entB X := by
    funext e
    unfold entB isT
    rw [nar_len]
  unfold tillE
  rw [hb, hb', hent]
theorem more_valid (hb : tillB X = true) {b : Int} (h0 : 0 ≤ b) : tillB (moreX X b) = true := by
  have h := tillB_num hb
  have h9 := Int.emod_nonneg b (show (9 : Int) ≠ 0 by decide)
  have h7 := Int.emod_nonneg b (show (7 : Int) ≠ 0 by decide)
  exact tillB_of (X := moreX X b) h.1 h.2.1 (by show 0 ≤ min 100 (X.fine + b % 9) ∧ min 100 (X.fine + b % 9) ≤ 100; omega) (by show 0 ≤ min 100 (X.wait + b % 7) ∧ min 100 (X.wait + b % 7) ≤ 100; omega)
theorem more_fine (b n : Int) : (fineSp (moreX X b) n).lo * X.fine = (fineSp X n).lo * (moreX X b).fine ∧ (fineSp (moreX X b) n).hi * X.fine = (fineSp X n).hi * (moreX X b).fine := by
  unfold fineSp
  simp only [show (moreX X b).tk = X.tk from rfl]
  constructor
  · split
    · simp
    · rw [Int.mul_comm]
  · split
    · simp
    · rw [Int.mul_comm]
theorem more_back (b n : Int) : (backSp (moreX X b) n).lo * X.wait = (backSp X n).lo * (moreX X b).wait ∧ (backSp (moreX X b) n).hi * X.wait = (backSp X n).hi * (moreX X b).wait := by
  unfold backSp
  simp only [show (moreX X b).tk = X.tk from rfl]
  constructor
  · rw [Int.mul_assoc, Int.mul_comm, Int.mul_comm X.wait]
  · rw [Int.mul_assoc, Int.mul_comm, Int.mul_comm X.wait]
end
end Go.Ti
/- Books that are right: in any order, without an entry, and with one again; the first entry that breaks a rule. -/
namespace Go.Ti
open Go.W (gt gt_of)
def sameK (a b : Ent) : Prop := a.ticket = b.ticket ∧ a.kind = b.kind
theorem booked_iff {l : List Ent} {t k : Int} : bookedB l t k = true ↔ ∃ e, e ∈ l ∧ e.ticket = t ∧ e.kind = k := by
  unfold bookedB
  simp only [List.any_eq_true, decide_eq_true_eq]
def RightB (X : Till) (l : List Ent) : Prop := l.Pairwise (fun a b => ¬ sameK a b) ∧ ∀ e, e ∈ l → canOf X e.ticket e.pence e.kind.toNat = true
theorem gt_take {l : List Ent} {i j : Nat} (h : j < i) : gt (l.take i) j = gt l j := by simp [gt, List.getD, List.getElem?_take, h]
theorem rule_take {X : Till} {l : List Ent} {i j : Nat} (h : j < i) : ruleI X (l.take i) j = ruleI X l j := by
  unfold ruleI
  rw [gt_take h, List.take_take, Nat.min_eq_left (by omega)]
theorem right_of {X : Till} : ∀ {l : List Ent}, (∀ i, i < l.length → ruleI X l i = 0) → RightB X l := by
  intro l h
  refine ⟨?_, fun e he => ?_⟩
  · rw [List.pairwise_iff_getElem]
    intro i j hi hj hij hs
    have h0 := h j hj
    unfold ruleI at h0
    have ei : gt l i = l[i] := by simp [gt, List.getD, hi]
    have ej : gt l j = l[j] := by simp [gt, List.getD, hj]
    have hb : bookedB (l.take j) (gt l j).ticket (gt l j).kind = true := booked_iff.2 ⟨l[i], by
      have : gt (l.take j) i ∈ l.take j := gt_mem (by rw [List.length_take]; omega)
      rw [gt_take hij, ei] at this
      exact this, by rw [ej]; exact hs.1, by rw [ej]; exact hs.2⟩
    rw [hb, if_pos rfl] at h0
    omega
  · obtain ⟨i, hi, rfl⟩ := mem_gt he
    exact rule_zero (h i hi)
theorem right_rule {X : Till} {l : List Ent} (h : RightB X l) {i : Nat} (hi : i < l.length) : ruleI X l i = 0 := by
  have hb : bookedB (l.take i) (gt l i).ticket (gt l i).kind = false := by
    cases hc : bookedB (l.take i) (gt l i).ticket (gt l i).kind with
    | false => rfl
    | true =>
      exfalso
      obtain ⟨e, he, h1, h2⟩ := booked_iff.1 hc
      obtain ⟨j, hj, rfl⟩ := mem_gt he
      rw [List.length_take] at hj
      rw [gt_take (by omega)] at h1 h2
      have hp := List.pairwise_iff_getElem.1 h.1 j i (by omega) hi (by omega)
      have ei : gt l i = l[i] := by simp [gt, List.getD, hi]
      have ej : gt l j = l[j] := by simp [gt, List.getD, show j < l.length by omega]
      rw [ei, ej] at h1 h2
      exact hp ⟨h1, h2⟩
  unfold ruleI
  rw [hb, if_neg (by simp), if_neg (by rw [h.2 _ (gt_mem hi)]; simp)]
theorem brok_right {X : Till} {l : List Ent} : brokL X l l.length = [] ↔ RightB X l := by
  constructor
  · intro h; exact right_of (brok_nil h)
  · intro h
    unfold brokL
    rw [List.filter_eq_nil_iff]
    intro i hi
    simp [right_rule h (List.mem_range.1 hi)]
theorem right_perm {X : Till} {l m : List Ent} (hp : l.Perm m) (h : RightB X l) : RightB X m :=
  ⟨(hp.pairwise_iff (fun {a b} h hs => h ⟨hs.1.symm, hs.2.symm⟩)).1 h.1, fun e he => h.2 e (hp.mem_iff.2 he)⟩
theorem right_sub {X : Till} {l m : List Ent} (hs : m.Sublist l) (h : RightB X l) : RightB X m := ⟨h.1.sublist hs, fun e he => h.2 e (hs.subset he)⟩
theorem brok_cons {X : Till} {l : List Ent} {n i : Nat} {r : List Nat} (h : brokL X l n = i :: r) : i < n ∧ ruleI X l i ≠ 0 ∧ brokL X l i = [] := by
  have hm : i ∈ brokL X l n := by rw [h]; simp
  unfold brokL at hm
  rw [List.mem_filter] at hm
  have hin := List.mem_range.1 hm.1
  have hr : ruleI X l i ≠ 0 := by simpa using hm.2
  refine ⟨hin, hr, ?_⟩
  obtain ⟨post, e⟩ := brok_split X l hin hr
  rw [h] at e
  cases hb : brokL X l i with
  | nil => rfl
  | cons a b =>
    exfalso
    rw [hb] at e
    simp only [List.cons_append, List.cons.injEq] at e
    obtain ⟨e1, _⟩ := e
    subst e1
    have : i ∈ brokL X l i := by rw [hb]; simp
    unfold brokL at this
    rw [List.mem_filter] at this
    have := List.mem_range.1 this.1
    omega
theorem brok_take {X : Till} {l : List Ent} {i : Nat} (hi : i ≤ l.length) : brokL X (l.take i) (l.take i).length = brokL X l i := by
  rw [List.length_take, Nat.min_eq_left hi]
  unfold brokL
  refine List.filter_congr fun j hj => ?_
  rw [rule_take (List.mem_range.1 hj)]
theorem toldE_eq {X : Till} {l : List Ent} (h : tillE X l true = 0) : toldE X l = tksE X.tk true := by unfold toldE; rw [if_neg (by rw [h]; simp)]
theorem toldE_ok {X : Till} {l : List Ent} (hb : tillB X = true) (h3 : l.length ≤ 20) (ha : l.all (entB X) = true) : toldE X l = tksE X.tk true := toldE_eq (tillE_0 hb h3 rfl (all_iff.1 ha))
theorem rule_one {X : Till} {l : List Ent} {i : Nat} : ruleI X l i = 1 ↔ bookedB (l.take i) (gt l i).ticket (gt l i).kind = true := by
  unfold ruleI
  cases hb : bookedB (l.take i) (gt l i).ticket (gt l i).kind with
  | true => simp
  | false =>
    simp only [Bool.false_eq_true, if_false, iff_false]
    split <;> omega
theorem all_perm {p : Ent → Bool} {l m : List Ent} (hp : l.Perm m) (h : l.all p = true) : m.all p = true := by
  rw [List.all_eq_true] at h ⊢
  exact fun x hx => h x (hp.mem_iff.2 hx)
theorem all_subl {p : Ent → Bool} {l m : List Ent} (hs : m.Sublist l) (h : l.all p = true) : m.all p = true := by
  rw [List.all_eq_true] at h ⊢
  exact fun x hx => h x (hs.subset hx)
section
variable {X : Till} {l : List Ent}
theorem check_right (hb : tillB X = true) (h3 : l.length ≤ 20) (ha : l.all (entB X) = true) (hW : tksE X.tk true = 0) (h : RightB X l) : CheckOut X l = (0, 0, 4) := by
  unfold CheckOut
  rw [toldE_ok hb h3 ha, hW, if_neg (by simp), brok_right.2 h]
theorem sum_right (hb : tillB X = true) (h3 : l.length ≤ 20) (ha : l.all (entB X) = true) (hW : tksE X.tk true = 0) (h : RightB X l) : SumOut X l = (((List.range l.length).map fun i => signI (gt l i)).sum, 0) := by
  unfold SumOut
  rw [toldE_ok hb h3 ha, hW, if_neg (by simp), brok_right.2 h, if_neg (by simp)]
theorem sum_list (l : List Ent) : ((List.range l.length).map fun i => signI (gt l i)).sum = (l.map signI).sum := by
  congr 1
  apply List.ext_getElem
  · simp
  · intro i h1 h2
    simp at h1
    simp [gt, List.getD, h1]
theorem sumI_perm {l m : List Int} (h : l.Perm m) : l.sum = m.sum := by
  induction h with
  | nil => rfl
  | cons x _ ih => simp [ih]
  | swap x y l => simp; omega
  | trans _ _ ih1 ih2 => exact ih1.trans ih2
/-- the first entry that breaks a rule -/
theorem check_first (hb : tillB X = true) (h3 : l.length ≤ 20) (ha : l.all (entB X) = true) (hW : tksE X.tk true = 0) {i : Nat} {r : List Nat} (h : brokL X l l.length = i :: r) :
    CheckOut X l = ((i : Int), ruleI X l i, 0) ∧ SumOut X l = (0, 11) ∧ i < l.length ∧ CheckOut X (l.take i) = (0, 0, 4) ∧ CheckOut X (l.take (i + 1)) = ((i : Int), ruleI X l i, 0) ∧ (ruleI X l i = 1 ∨ ruleI X l i = 2) := by
  obtain ⟨hi, hr, hn⟩ := brok_cons h
  have t0 := toldE_ok hb h3 ha
  have t1 := toldE_ok (l := l.take i) hb (by rw [List.length_take]; omega) (all_subl (List.take_sublist _ _) ha)
  have t2 := toldE_ok (l := l.take (i + 1)) hb (by rw [List.length_take]; omega) (all_subl (List.take_sublist _ _) ha)
  refine ⟨?_, ?_, hi, ?_, ?_, ?_⟩
  · unfold CheckOut; rw [t0, hW, if_neg (by simp), h]
  · unfold SumOut; rw [t0, hW, if_neg (by simp), if_pos (by rw [h]; simp)]
  · unfold CheckOut; rw [t1, hW, if_neg (by simp), brok_take (by omega), hn]
  · unfold CheckOut; rw [t2, hW, if_neg (by simp), brok_take (by omega), brok_succ, hn, if_pos hr]
    show ((i : Int), ruleI X (l.take (i + 1)) i, (0 : Int)) = _
    rw [rule_take (by omega)]
  · rcases rule_cases X l i with h0 | h0
    · exact absurd h0 hr
    · exact h0
/-- an entry that is booked again -/
theorem check_again (hb : tillB X = true) (h3 : l.length < 20) (ha : l.all (entB X) = true) (hW : tksE X.tk true = 0) (h : RightB X l) {i : Nat} (hi : i < l.length) : CheckOut X (l ++ [gt l i]) = ((l.length : Int), 1, 0) := by
  have ha2 : (l ++ [gt l i]).all (entB X) = true := by
    rw [List.all_append, ha]
    simp only [List.all_cons, List.all_nil, Bool.and_true, Bool.true_and]
    exact all_iff.1 ha i hi
  have t := toldE_ok (l := l ++ [gt l i]) hb (by simp; omega) ha2
  have hn : brokL X (l ++ [gt l i]) l.length = [] := by
    have := brok_take (X := X) (l := l ++ [gt l i]) (i := l.length) (by simp)
    rw [List.take_left] at this
    rw [← this]
    exact brok_right.2 h
  have hg : gt (l ++ [gt l i]) l.length = gt l i := by simp [gt, List.getD]
  have hr : ruleI X (l ++ [gt l i]) l.length = 1 := rule_one.2 (by
    rw [List.take_left, hg]
    exact booked_iff.2 ⟨gt l i, gt_mem hi, rfl, rfl⟩)
  unfold CheckOut
  rw [t, hW, if_neg (by simp), List.length_append, List.length_singleton, brok_succ, hn, hr, if_pos (by decide)]
  show ((l.length : Int), ruleI X (l ++ [gt l i]) l.length, (0 : Int)) = _
  rw [hr]
end
end Go.Ti
/- What is missing, booked. -/
namespace Go.Ti
open Go.W (gt gt_of)
def dueE (X : Till) (i k : Nat) : Ent := ⟨(i : Int), (k : Int), (spanOf X (i : Int) k).lo⟩
def addT (X : Till) (l : List Ent) (i k : Nat) : List Ent := if missB X l k i then [dueE X i k] else []
def fullK (X : Till) (l : List Ent) (i : Nat) (F : List Ent) : Nat → List Ent
  | 0 => F
  | k + 1 => fullK X l i F k ++ addT X l i (k + 1)
def fullL (X : Till) (l : List Ent) : Nat → List Ent
  | 0 => l
  | i + 1 => fullK X l i (fullL X l i) 3
structure FullI (X : Till) (l : List Ent) (i k : Nat) (F : List Ent) : Prop where
  sub : l.Sublist F
  inn : ∀ e, e ∈ F → e ∈ l ∨ ∃ a j : Nat, (a < i ∨ a = i ∧ j < k) ∧ e.ticket = (a : Int) ∧ e.kind = ((j + 1 : Nat) : Int)
  has : ∀ a j : Nat, (a < i ∨ a = i ∧ j < k) → j < 3 → missB X l (j + 1) a = true → bookedB F (a : Int) ((j + 1 : Nat) : Int) = true
  rt : RightB X l → RightB X F
  ok : F.all (entB X) = true
  len : F.length ≤ l.length + 3 * i + k
theorem right_app {X : Till} {F : List Ent} {e : Ent} (h : RightB X F) (hn : bookedB F e.ticket e.kind = false) (hc : canOf X e.ticket e.pence e.kind.toNat = true) : RightB X (F ++ [e]) := by
  refine ⟨?_, ?_⟩
  · rw [List.pairwise_append]
    refine ⟨h.1, List.pairwise_singleton _ _, ?_⟩
    intro a ha b hb
    rw [List.mem_singleton] at hb
    subst hb
    intro hs
    have : bookedB F b.ticket b.kind = true := booked_iff.2 ⟨a, ha, hs.1, hs.2⟩
    rw [hn] at this; cases this
  · intro a ha
    rcases List.mem_append.1 ha with h1 | h1
    · exact h.2 a h1
    · rw [List.mem_singleton] at h1; subst h1; exact hc
theorem miss_iff {X : Till} {l : List Ent} {k n : Nat} : missB X l k n = true ↔ bookedB l (n : Int) (k : Int) = false ∧ (k = 1 ∨ (spanOf X (n : Int) k).lo > 0) := by
  unfold missB
  rw [Bool.and_eq_true, Bool.or_eq_true, decide_eq_true_eq, decide_eq_true_eq]
  cases bookedB l (n : Int) (k : Int) <;> simp
theorem can_due {X : Till} {l : List Ent} (hb : tillB X = true) {i k : Nat} (hi : i < X.tk.l.length) (hk : 1 ≤ k ∧ k ≤ 3) (h : missB X l k i = true) : canOf X (i : Int) (spanOf X (i : Int) k).lo k = true := by
  have h2 := (miss_iff.1 h).2
  have hT : isT X.tk (i : Int) = true := decide_eq_true (by omega)
  rcases (show k = 1 ∨ k = 2 ∨ k = 3 by omega) with rfl | rfl | rfl
  · simp [canOf, spanOf, priceCan, priceSp, hT]
  · have h3 : (fineSp X (i : Int)).lo > 0 := by
      rcases h2 with h2 | h2
      · omega
      · exact h2
    simp only [fineSp] at h3
    simp only [canOf, spanOf, fineCan, fineSp, hT, Bool.and_true, Bool.and_eq_true, decide_eq_true_eq]
    split at h3
    · omega
    · rename_i h4
      rw [if_neg h4]
      exact ⟨by omega, rfl⟩
  · have hm := minutes_num X.tk (i : Int)
    show backCan X (i : Int) (backSp X (i : Int)).lo = true
    unfold backCan
    refine List.any_eq_true.2 ⟨(waitsSp X.tk (i : Int)).lo, mem_rng.2 ⟨Int.le_refl _, ?_⟩, decide_eq_true ?_⟩
    · simp only [waitsSp]; omega
    · exact Int.mul_comm _ _
theorem full_step {X : Till} {l : List Ent} (hb : tillB X = true) {i k : Nat} (hi : i < X.tk.l.length) (hk : k < 3) {F : List Ent} (h : FullI X l i k F) : FullI X l i (k + 1) (F ++ addT X l i (k + 1)) := by
  by_cases hm : missB X l (k + 1) i = true
  · have hn : bookedB F (i : Int) ((k + 1 : Nat) : Int) = false := by
      by_cases hq : bookedB F (i : Int) ((k + 1 : Nat) : Int) = true
      · obtain ⟨e, he, h1, h2⟩ := booked_iff.1 hq
        rcases h.inn e he with h3 | ⟨a, j, h3, h4, h5⟩
        · have h6 := (miss_iff.1 hm).1
          rw [booked_iff.2 ⟨e, h3, h1, h2⟩] at h6; cases h6
        · omega
      · simpa using hq
    have ha : addT X l i (k + 1) = [dueE X i (k + 1)] := by unfold addT; rw [if_pos hm]
    rw [ha]
    refine ⟨h.sub.trans (List.sublist_append_left _ _), ?_, ?_, ?_, ?_, ?_⟩
    · intro e he
      rcases List.mem_append.1 he with h1 | h1
      · rcases h.inn e h1 with h2 | ⟨a, j, h2, h3⟩
        · exact .inl h2
        · exact .inr ⟨a, j, by omega, h3⟩
      · rw [List.mem_singleton] at h1; subst h1
        exact .inr ⟨i, k, by omega, rfl, rfl⟩
    · intro a j hj h3 hmm
      by_cases hl : a < i ∨ a = i ∧ j < k
      · obtain ⟨e, he, h4⟩ := booked_iff.1 (h.has a j hl h3 hmm)
        exact booked_iff.2 ⟨e, List.mem_append_left _ he, h4⟩
      · have h1 : a = i := by omega
        have h2 : j = k := by omega
        subst h1; subst h2
        exact booked_iff.2 ⟨dueE X a (j + 1), by simp, rfl, rfl⟩
    · intro hr
      exact right_app (h.rt hr) hn (can_due hb hi (by omega) hm)
    · rw [List.all_append, h.ok]
      simp only [List.all_cons, List.all_nil, Bool.and_true, Bool.true_and]
      have hT : isT X.tk (i : Int) = true := decide_eq_true (by omega)
      have hI : inB ((k + 1 : Nat) : Int) 1 3 = true := decide_eq_true (by omega)
      show (isT X.tk (i : Int) && inB ((k + 1 : Nat) : Int) 1 3) = true
      rw [hT, hI]; rfl
    · have := h.len
      rw [List.length_append, List.length_singleton]; omega
  · have ha : addT X l i (k + 1) = [] := by unfold addT; rw [if_neg hm]
    rw [ha, List.append_nil]
    refine ⟨h.sub, ?_, ?_, h.rt, h.ok, by have := h.len; omega⟩
    · intro e he
      rcases h.inn e he with h2 | ⟨a, j, h2, h3⟩
      · exact .inl h2
      · exact .inr ⟨a, j, by omega, h3⟩
    · intro a j hj h3 hmm
      by_cases hl : a < i ∨ a = i ∧ j < k
      · exact h.has a j hl h3 hmm
      · have h1 : a = i := by omega
        have h2 : j = k := by omega
        subst h1; subst h2
        exact absurd hmm hm
theorem full_roll {X : Till} {l : List Ent} {i : Nat} {F : List Ent} (h : FullI X l i 3 F) : FullI X l (i + 1) 0 F := by
  refine ⟨h.sub, ?_, ?_, h.rt, h.ok, by have := h.len; omega⟩
  · intro e he
    rcases h.inn e he with h2 | ⟨a, j, h2, h3⟩
    · exact .inl h2
    · exact .inr ⟨a, j, by omega, h3⟩
  · intro a j hj h3 hmm
    exact h.has a j (by omega) h3 hmm
theorem full_zero {X : Till} {l : List Ent} (h4 : l.all (entB X) = true) : FullI X l 0 0 l :=
  ⟨List.Sublist.refl _, fun e he => .inl he, fun a j hj => by omega, id, h4, by omega⟩
theorem full_k {X : Till} {l : List Ent} (hb : tillB X = true) {i : Nat} (hi : i < X.tk.l.length) {F : List Ent} (h : FullI X l i 0 F) : ∀ k, k ≤ 3 → FullI X l i k (fullK X l i F k) := by
  intro k
  induction k with
  | zero => intro _; exact h
  | succ k ih => intro hk; exact full_step hb hi (by omega) (ih (by omega))
theorem full_law {X : Till} {l : List Ent} (hb : tillB X = true) (h4 : l.all (entB X) = true) : ∀ i, i ≤ X.tk.l.length → FullI X l i 0 (fullL X l i) := by
  intro i
  induction i with
  | zero => intro _; exact full_zero h4
  | succ i ih => intro hi; exact full_roll (full_k hb (by omega) (ih (by omega)) 3 (Nat.le_refl _))
theorem bits_zero {f : Nat → Bool} : ∀ {n}, (∀ i, i < n → f i = false) → bitsI f n = 0 := by
  intro n
  induction n with
  | zero => intro _; rfl
  | succ n ih => intro h; unfold bitsI; rw [ih fun i hi => h i (by omega), h n (by omega)]; rfl
theorem bits_test (f : Nat → Bool) : ∀ n i, (bitsI f n).testBit i = (decide (i < n) && f i) := by
  intro n
  induction n with
  | zero => intro i; simp [bitsI]
  | succ n ih =>
    intro i
    have hlt := bits_lt f n
    have hlt2 := bits_lt f (n + 1)
    rcases Nat.lt_trichotomy i n with h | h | h
    · unfold bitsI
      by_cases hf : f n = true
      · rw [if_pos hf, Nat.add_comm, Nat.testBit_two_pow_add_gt h, ih, decide_eq_true h, decide_eq_true (show i < n + 1 by omega)]
      · rw [if_neg hf, Nat.add_zero, ih, decide_eq_true h, decide_eq_true (show i < n + 1 by omega)]
    · subst h
      unfold bitsI
      by_cases hf : f i = true
      · rw [if_pos hf, Nat.add_comm, Nat.testBit_two_pow_add_eq, Nat.testBit_lt_two_pow hlt, hf]; simp
      · rw [if_neg hf, Nat.add_zero, Nat.testBit_lt_two_pow hlt]; simp [hf]
    · rw [Nat.testBit_lt_two_pow (Nat.lt_of_lt_of_le hlt2 (Nat.pow_le_pow_right (by omega) (by omega))), decide_eq_false (by omega)]; rfl
theorem bit_at (f : Nat → Bool) {n i : Nat} (hi : i < n) : bitsI f n / 2 ^ i % 2 = if f i then 1 else 0 := by
  have h := bits_test f n i
  rw [Nat.testBit_eq_decide_div_mod_eq, decide_eq_true hi, Bool.true_and] at h
  have h2 : bitsI f n / 2 ^ i % 2 < 2 := Nat.mod_lt _ (by omega)
  cases hf : f i with
  | true => rw [hf] at h; rw [if_pos rfl]; exact of_decide_eq_true h
  | false => rw [hf] at h; have := of_decide_eq_false h; rw [if_neg (by simp)]; omega
theorem bits_not {f g : Nat → Bool} {n : Nat} (h : ∀ i, i < n → f i = true → g i = true) : IntKind.i64.wrap ((BitVec.ofInt 64 ((bitsI f n : Nat) : Int) &&& ~~~(BitVec.ofInt 64 ((bitsI g n : Nat) : Int))).toNat) = 0 := by
  have h0 : (BitVec.ofInt 64 ((bitsI f n : Nat) : Int) &&& ~~~(BitVec.ofInt 64 ((bitsI g n : Nat) : Int))) = 0#64 := by
    rw [BitVec.ofInt_natCast, BitVec.ofInt_natCast]
    apply BitVec.eq_of_getLsbD_eq
    intro i hi
    rw [BitVec.getLsbD_and, BitVec.getLsbD_not, BitVec.getLsbD_ofNat, BitVec.getLsbD_ofNat, bits_test, bits_test]
    simp only [hi, decide_true, Bool.true_and, BitVec.getLsbD_zero]
    by_cases hn : i < n
    · rw [decide_eq_true hn, Bool.true_and, Bool.true_and]
      cases hf : f i with
      | false => rfl
      | true => rw [h i hn hf]; rfl
    · rw [decide_eq_false hn]; rfl
  rw [h0]
  decide
theorem booked_sub {l F : List Ent} (h : l.Sublist F) {t k : Int} (hb : bookedB l t k = true) : bookedB F t k = true := by
  obtain ⟨e, he, h1⟩ := booked_iff.1 hb
  exact booked_iff.2 ⟨e, h.subset he, h1⟩
theorem miss_sub {X : Till} {l F : List Ent} (h : l.Sublist F) {k i : Nat} (hm : missB X F k i = true) : missB X l k i = true := by
  obtain ⟨h1, h2⟩ := miss_iff.1 hm
  refine miss_iff.2 ⟨?_, h2⟩
  cases hq : bookedB l (i : Int) (k : Int) with
  | false => rfl
  | true => rw [booked_sub h hq] at h1; cases h1
theorem missO_0 {X : Till} {l : List Ent} (h : toldE X l = 0) : MissOut X l = ((bitsI (missB X l 1) X.tk.l.length : Int), (bitsI (missB X l 2) X.tk.l.length : Int), (bitsI (missB X l 3) X.tk.l.length : Int), 0) := by
  unfold MissOut; rw [if_neg (by rw [h]; simp)]
theorem missO_10 {X : Till} {l : List Ent} (h : tillE X l true = 0) (hW : tksE X.tk true = 10) : MissOut X l = (0, 0, 0, 10) := by
  unfold MissOut; rw [toldE_eq h, hW, if_pos (by decide)]
theorem check_err {X : Till} {l : List Ent} (h : toldE X l = 0) : (CheckOut X l).2.2 = if brokL X l l.length = [] then 4 else 0 := by
  unfold CheckOut; rw [if_neg (by rw [h]; simp)]
  cases brokL X l l.length <;> simp
theorem miss_full {X : Till} {l F : List Ent} (hb : tillB X = true) (hW : tksE X.tk true = 0) (h : FullI X l X.tk.l.length 0 F) (hF : F.length ≤ 20) : MissOut X F = (0, 0, 0, 0) := by
  have h0 : ∀ k, 1 ≤ k → k ≤ 3 → bitsI (missB X F k) X.tk.l.length = 0 := by
    intro k h1 h3
    refine bits_zero fun i hi => ?_
    cases hm : missB X F k i with
    | false => rfl
    | true =>
      obtain ⟨j, rfl⟩ : ∃ j, k = j + 1 := ⟨k - 1, by omega⟩
      have h4 := h.has i j (.inl hi) (by omega) (miss_sub h.sub hm)
      rw [(miss_iff.1 hm).1] at h4; cases h4
  rw [missO_0 (by rw [toldE_ok hb hF h.ok, hW]), h0 1 (by omega) (by omega), h0 2 (by omega) (by omega), h0 3 (by omega) (by omega)]
  rfl
theorem check_full {X : Till} {l F : List Ent} (hb : tillB X = true) (hW : tksE X.tk true = 0) (h4 : l.all (entB X) = true) (h : FullI X l X.tk.l.length 0 F) (hF : F.length ≤ 20) : (CheckOut X F).2.2 = (CheckOut X l).2.2 := by
  have hl : l.length ≤ 20 := Nat.le_trans h.sub.length_le hF
  rw [check_err (by rw [toldE_ok hb hF h.ok, hW]), check_err (by rw [toldE_ok hb hl h4, hW])]
  by_cases hr : RightB X l
  · rw [if_pos (brok_right.2 hr), if_pos (brok_right.2 (h.rt hr))]
  · rw [if_neg (fun e => hr (brok_right.1 e)), if_neg (fun e => hr (right_sub h.sub (brok_right.1 e)))]
theorem toldE_app {X : Till} {l : List Ent} {e : Ent} (hb : tillB X = true) (hW : tksE X.tk true = 0) (hl : l.length < 20) (h4 : l.all (entB X) = true) (he : entB X e = true) : toldE X (l ++ [e]) = 0 := by
  rw [toldE_ok hb (by rw [List.length_append, List.length_singleton]; omega) (by rw [List.all_append, h4, List.all_cons, he]; rfl), hW]
theorem bits_app {X : Till} {l : List Ent} {e : Ent} {k n : Nat} : IntKind.i64.wrap ((BitVec.ofInt 64 ((bitsI (missB X (l ++ [e]) k) n : Nat) : Int) &&& ~~~(BitVec.ofInt 64 ((bitsI (missB X l k) n : Nat) : Int))).toNat) = 0 :=
  bits_not fun i _ h => miss_sub (List.sublist_append_left _ _) h
end Go.Ti
/- The reference's truths in plain words, as lists of pairs: what it tells of them is what the program tells. -/
namespace Go.Ti
open Go.W (gt gt_of)
def fitsB (T : Tks) (y : List Pr) : Bool := decide ((gt y (y.length - 1)).1 ≤ (gt y (y.length - 1)).2) && (List.range (y.length - 1)).all fun i => !(decide ((gt T.l i).hut = (gt T.l (y.length - 1)).hut) && nearB (gt y i).2 (gt y (y.length - 1)).2)
def nB (T : Tks) (k : Nat) : Nat := ((gt T.l k).bought.hi - (gt T.l k).bought.lo + 1).toNat
def nD (T : Tks) (k : Nat) : Nat := ((gt T.l k).door.hi - (gt T.l k).door.lo + 1).toNat
def goB (T : Tks) (f : List Pr → List (List Pr)) (b : List Pr) (a : Int) (k : Nat) : List (List Pr) := (List.range k).flatMap fun j : Nat => if fitsB T (b ++ [(a, (gt T.l b.length).door.lo + (j : Int))]) then f (b ++ [(a, (gt T.l b.length).door.lo + (j : Int))]) else []
def goA (T : Tks) (f : List Pr → List (List Pr)) (b : List Pr) (k : Nat) : List (List Pr) := (List.range k).flatMap fun i : Nat => goB T f b ((gt T.l b.length).bought.lo + (i : Int)) (nD T b.length)
def refT (T : Tks) : Nat → List Pr → List (List Pr)
  | 0, b => [b]
  | rem + 1, b => goA T (refT T rem) b (nB T b.length)
theorem goB_succ (T : Tks) (f : List Pr → List (List Pr)) (b : List Pr) (a : Int) (k : Nat) : goB T f b a (k + 1) = goB T f b a k ++ if fitsB T (b ++ [(a, (gt T.l b.length).door.lo + (k : Int))]) then f (b ++ [(a, (gt T.l b.length).door.lo + (k : Int))]) else [] := by
  unfold goB; rw [List.range_succ, List.flatMap_append]; simp
theorem goA_succ (T : Tks) (f : List Pr → List (List Pr)) (b : List Pr) (k : Nat) : goA T f b (k + 1) = goA T f b k ++ goB T f b ((gt T.l b.length).bought.lo + (k : Int)) (nD T b.length) := by
  unfold goA; rw [List.range_succ, List.flatMap_append]; simp
/-! ### how many -/
theorem goB_len {T : Tks} {f : List Pr → List (List Pr)} {b : List Pr} {a : Int} {M : Nat} (hf : ∀ p, (f (b ++ [p])).length ≤ M) : ∀ k, (goB T f b a k).length ≤ k * M := by
  intro k
  induction k with
  | zero => simp [goB]
  | succ k ih =>
    rw [goB_succ, List.length_append, Nat.succ_mul]
    have : (if fitsB T (b ++ [(a, (gt T.l b.length).door.lo + (k : Int))]) then f (b ++ [(a, (gt T.l b.length).door.lo + (k : Int))]) else []).length ≤ M := by
      split
      · exact hf _
      · simp
    omega
theorem goA_len {T : Tks} {f : List Pr → List (List Pr)} {b : List Pr} {M : Nat} (hf : ∀ p, (f (b ++ [p])).length ≤ M) (hd : nD T b.length ≤ 3) : ∀ k, (goA T f b k).length ≤ k * (3 * M) := by
  intro k
  induction k with
  | zero => simp [goA]
  | succ k ih =>
    rw [goA_succ, List.length_append, Nat.succ_mul]
    have h1 := goB_len (T := T) (a := (gt T.l b.length).bought.lo + (k : Int)) hf (nD T b.length)
    have h2 : nD T b.length * M ≤ 3 * M := Nat.mul_le_mul_right M hd
    omega
theorem wid3 {T : Tks} (hv : tksB T = true) {k : Nat} (hk : k < T.l.length) : nB T k ≤ 3 ∧ nD T k ≤ 3 := by
  have h := (tks_num hv).2.2 k hk
  unfold nB nD
  omega
theorem ref_len {T : Tks} (hv : tksB T = true) : ∀ (rem : Nat) (b : List Pr), b.length + rem = T.l.length → (refT T rem b).length ≤ 9 ^ rem := by
  intro rem
  induction rem with
  | zero => intro b _; simp [refT]
  | succ rem ih =>
    intro b hb
    have h3 := wid3 hv (k := b.length) (by omega)
    have h1 := goA_len (T := T) (f := refT T rem) (b := b) (M := 9 ^ rem) (fun p => ih _ (by rw [List.length_append, List.length_singleton]; omega)) h3.2 (nB T b.length)
    have h2 : nB T b.length * (3 * 9 ^ rem) ≤ 3 * (3 * 9 ^ rem) := Nat.mul_le_mul_right _ h3.1
    have h4 : (9 : Nat) ^ (rem + 1) = 9 * 9 ^ rem := by rw [Nat.pow_succ, Nat.mul_comm]
    unfold refT
    omega
/-! ### which -/
def stepOk (T : Tks) (y : List Pr) (i : Nat) : Prop := pairP (gt T.l i) (gt y i) = true ∧ ∀ j, j < i → (gt T.l j).hut = (gt T.l i).hut → nearB (gt y j).2 (gt y i).2 = false
theorem gt_pre {b y : List Pr} (h : b <+: y) {i : Nat} (hi : i < b.length) : gt y i = gt b i := by
  obtain ⟨r, rfl⟩ := h
  exact gt_app_left hi
theorem gt_last (b : List Pr) (p : Pr) : gt (b ++ [p]) b.length = p := by simp [gt, List.getD]
theorem fits_iff {T : Tks} {b : List Pr} {p : Pr} : fitsB T (b ++ [p]) = true ↔ p.1 ≤ p.2 ∧ ∀ j, j < b.length → (gt T.l j).hut = (gt T.l b.length).hut → nearB (gt b j).2 p.2 = false := by
  have hl : (b ++ [p]).length - 1 = b.length := by simp
  unfold fitsB
  rw [hl, gt_last, Bool.and_eq_true, decide_eq_true_eq, List.all_eq_true]
  refine and_congr Iff.rfl ⟨fun h j hj hh => ?_, fun h j hj => ?_⟩
  · have h1 := h j (List.mem_range.2 hj)
    rw [decide_eq_true hh, gt_app_left hj] at h1
    simpa using h1
  · have hj' := List.mem_range.1 hj
    rw [gt_app_left hj']
    by_cases hh : (gt T.l j).hut = (gt T.l b.length).hut
    · rw [h j hj' hh]; simp
    · rw [decide_eq_false hh]; rfl
theorem pre_snoc {b y : List Pr} (h : b <+: y) (hl : b.length < y.length) : b ++ [gt y b.length] <+: y := by
  obtain ⟨r, rfl⟩ := h
  cases r with
  | nil => simp at hl
  | cons p r =>
    have : gt (b ++ p :: r) b.length = p := by simp [gt, List.getD]
    rw [this]
    exact ⟨r, by simp⟩
theorem mem_goA {T : Tks} {f : List Pr → List (List Pr)} {b y : List Pr} : y ∈ goA T f b (nB T b.length) ↔
    ∃ p : Pr, ((gt T.l b.length).bought.lo ≤ p.1 ∧ p.1 ≤ (gt T.l b.length).bought.hi) ∧ ((gt T.l b.length).door.lo ≤ p.2 ∧ p.2 ≤ (gt T.l b.length).door.hi) ∧ fitsB T (b ++ [p]) = true ∧ y ∈ f (b ++ [p]) := by
  unfold goA goB
  simp only [List.mem_flatMap, List.mem_range]
  constructor
  · rintro ⟨i, hi, j, hj, hy⟩
    split at hy
    · rename_i hf
      unfold nB at hi; unfold nD at hj
      exact ⟨_, ⟨by simp only; omega, by simp only; omega⟩, ⟨by simp only; omega, by simp only; omega⟩, hf, hy⟩
    · simp at hy
  · rintro ⟨⟨a, d⟩, ⟨h1, h2⟩, ⟨h3, h4⟩, hf, hy⟩
    simp only at h1 h2 h3 h4
    refine ⟨(a - (gt T.l b.length).bought.lo).toNat, by unfold nB; omega, (d - (gt T.l b.length).door.lo).toNat, by unfold nD; omega, ?_⟩
    rw [show (gt T.l b.length).bought.lo + ((a - (gt T.l b.length).bought.lo).toNat : Int) = a by omega, show (gt T.l b.length).door.lo + ((d - (gt T.l b.length).door.lo).toNat : Int) = d by omega, if_pos hf]
    exact hy
theorem ref_mem (T : Tks) : ∀ (rem : Nat) (b y : List Pr), y ∈ refT T rem b ↔ y.length = b.length + rem ∧ b <+: y ∧ ∀ i, b.length ≤ i → i < y.length → stepOk T y i := by
  intro rem
  induction rem with
  | zero =>
    intro b y
    simp only [refT, List.mem_singleton]
    constructor
    · rintro rfl; exact ⟨rfl, List.prefix_refl _, fun i h1 h2 => by omega⟩
    · rintro ⟨h1, h2, _⟩; exact (h2.eq_of_length (by omega)).symm
  | succ rem ih =>
    intro b y
    have hs : ∀ p : Pr, (b ++ [p]).length = b.length + 1 := fun p => by simp
    show y ∈ goA T (refT T rem) b (nB T b.length) ↔ _
    rw [mem_goA]
    constructor
    · rintro ⟨p, h1, h2, hf, hy⟩
      obtain ⟨h3, h4, h5⟩ := (ih _ _).1 hy
      have hpb : b <+: y := (List.prefix_append b [p]).trans h4
      have hp : gt y b.length = p := by rw [gt_pre h4 (by rw [hs]; omega), gt_last]
      rw [hs] at h3 h5
      refine ⟨by omega, hpb, fun i hi1 hi2 => ?_⟩
      by_cases e : i = b.length
      · subst e
        obtain ⟨f1, f2⟩ := fits_iff.1 hf
        refine ⟨by rw [hp]; exact pairP_iff.2 ⟨h1, h2, f1⟩, fun j hj hh => ?_⟩
        rw [hp, gt_pre hpb hj]
        exact f2 j hj hh
      · exact h5 i (by omega) hi2
    · rintro ⟨h1, h2, h3⟩
      have hlt : b.length < y.length := by omega
      obtain ⟨s1, s2⟩ := h3 b.length (Nat.le_refl _) hlt
      obtain ⟨p1, p2, p3⟩ := pairP_iff.1 s1
      refine ⟨gt y b.length, p1, p2, fits_iff.2 ⟨p3, fun j hj hh => ?_⟩, (ih _ _).2 ⟨by rw [hs]; omega, pre_snoc h2 hlt, fun i hi1 hi2 => h3 i (by rw [hs] at hi1; omega) hi2⟩⟩
      rw [← gt_pre h2 hj]
      exact s2 j hj hh
theorem ref_sol {T : Tks} {y : List Pr} : y ∈ refT T T.l.length [] ↔ y.length = T.l.length ∧ Sol T (gt y) := by
  rw [ref_mem]
  constructor
  · rintro ⟨h1, _, h3⟩
    have hl : y.length = T.l.length := by simpa using h1
    refine ⟨hl, ⟨fun i hi => (h3 i (Nat.zero_le _) (by omega)).1, fun i j hi hj hne hh => ?_, fun i hi => gt_out (by omega)⟩⟩
    rcases Nat.lt_or_gt_of_ne hne with h | h
    · exact (h3 j (Nat.zero_le _) (by omega)).2 i h hh
    · rw [nearB_comm]; exact (h3 i (Nat.zero_le _) (by omega)).2 j h hh.symm
  · rintro ⟨h1, h2⟩
    exact ⟨by simpa using h1, List.nil_prefix, fun i _ hi => ⟨h2.pair i (by omega), fun j hj hh => h2.apart j i (by omega) (by omega) (by omega) hh⟩⟩
theorem ref_onto {T : Tks} {x : Tru} (h : Sol T x) : ∃ y, y ∈ refT T T.l.length [] ∧ gt y = x := by
  have e : gt ((List.range T.l.length).map x) = x := by
    funext i
    by_cases hi : i < T.l.length
    · simp [gt, List.getD, hi]
    · rw [gt_out (by simpa using hi), h.rest i (by omega)]; rfl
  exact ⟨(List.range T.l.length).map x, ref_sol.2 ⟨by simp, by rw [e]; exact h⟩, e⟩
abbrev RF (T : Tks) : List (List Pr) := refT T T.l.length []
theorem ref_all {T : Tks} {y : List Pr} (h : y ∈ RF T) : y.length = T.l.length ∧ gt y ∈ allT T := ⟨(ref_sol.1 h).1, mem_allT.2 (ref_sol.1 h).2⟩
theorem all_ref {T : Tks} {x : Tru} (h : x ∈ allT T) : ∃ y, y ∈ RF T ∧ gt y = x := ref_onto (mem_allT.1 h)
theorem ref_ne {T : Tks} : RF T = [] ↔ allT T = [] := by
  constructor
  · intro h
    rcases hl : allT T with _ | ⟨x, l⟩
    · rfl
    · obtain ⟨y, hy, _⟩ := all_ref (T := T) (x := x) (by rw [hl]; simp)
      rw [h] at hy; simp at hy
  · intro h
    rcases hl : RF T with _ | ⟨y, l⟩
    · rfl
    · have := (ref_all (T := T) (y := y) (by rw [hl]; simp)).2
      rw [h] at this; simp at this
/-! ### spans of numbers -/
structure IsH (l : List Int) (s : Sp) : Prop where
  lo : s.lo ∈ l
  hi : s.hi ∈ l
  mem : ∀ v, v ∈ l → s.lo ≤ v ∧ v ≤ s.hi
theorem IsH.uniq {l : List Int} {s t : Sp} (h : IsH l s) (h' : IsH l t) : s = t := by
  obtain ⟨a, b⟩ := s
  obtain ⟨c, d⟩ := t
  have h1 := h.mem _ h'.lo
  have h2 := h.mem _ h'.hi
  have h3 := h'.mem _ h.lo
  have h4 := h'.mem _ h.hi
  simp only at h1 h2 h3 h4
  rw [Sp.mk.injEq]
  omega
def hullL (l : List Int) : Sp := ⟨l.foldl min (gt l 0), l.foldl max (gt l 0)⟩
theorem foldm (l : List Int) : ∀ a, (l.foldl min a = a ∨ l.foldl min a ∈ l) ∧ l.foldl min a ≤ a ∧ ∀ v, v ∈ l → l.foldl min a ≤ v := by
  induction l with
  | nil => intro a; exact ⟨.inl rfl, Int.le_refl _, fun v hv => by simp at hv⟩
  | cons x l ih =>
    intro a
    obtain ⟨h1, h2, h3⟩ := ih (min a x)
    refine ⟨?_, by simp only [List.foldl_cons]; omega, fun v hv => ?_⟩
    · simp only [List.foldl_cons]
      rcases h1 with h1 | h1
      · by_cases h : a ≤ x
        · left; omega
        · right; rw [h1, show min a x = x by omega]; simp
      · right; exact List.mem_cons_of_mem _ h1
    · simp only [List.foldl_cons]
      rcases List.mem_cons.1 hv with rfl | hv
      · omega
      · exact h3 v hv
theorem foldM (l : List Int) : ∀ a, (l.foldl max a = a ∨ l.foldl max a ∈ l) ∧ a ≤ l.foldl max a ∧ ∀ v, v ∈ l → v ≤ l.foldl max a := by
  induction l with
  | nil => intro a; exact ⟨.inl rfl, Int.le_refl _, fun v hv => by simp at hv⟩
  | cons x l ih =>
    intro a
    obtain ⟨h1, h2, h3⟩ := ih (max a x)
    refine ⟨?_, by simp only [List.foldl_cons]; omega, fun v hv => ?_⟩
    · simp only [List.foldl_cons]
      rcases h1 with h1 | h1
      · by_cases h : x ≤ a
        · left; omega
        · right; rw [h1, show max a x = x by omega]; simp
      · right; exact List.mem_cons_of_mem _ h1
    · simp only [List.foldl_cons]
      rcases List.mem_cons.1 hv with rfl | hv
      · omega
      · exact h3 v hv
theorem hullL_spec {l : List Int} (h : l ≠ []) : IsH l (hullL l) := by
  have h0 : gt l 0 ∈ l := gt_mem (List.length_pos_iff.2 h)
  obtain ⟨a1, _, a3⟩ := foldm l (gt l 0)
  obtain ⟨b1, _, b3⟩ := foldM l (gt l 0)
  refine ⟨?_, ?_, fun v hv => ⟨a3 v hv, b3 v hv⟩⟩
  · rcases a1 with h | h
    · simp only [hullL]; rw [h]; exact h0
    · exact h
  · rcases b1 with h | h
    · simp only [hullL]; rw [h]; exact h0
    · exact h
theorem hull_eq {l : List Int} {s : Sp} (h : IsH l s) : hullL l = s := (hullL_spec (by intro e; have := h.lo; rw [e] at this; simp at this)).uniq h
/-- the span of what is read off each truth -/
theorem hull_ref {T : Tks} {g : List Pr → Int} {f : Tru → Int} (hg : ∀ y, y ∈ RF T → g y = f (gt y)) {s : Sp} (hlo : ∃ x, x ∈ allT T ∧ f x = s.lo) (hhi : ∃ x, x ∈ allT T ∧ f x = s.hi) (hm : ∀ x, x ∈ allT T → s.lo ≤ f x ∧ f x ≤ s.hi) : hullL ((RF T).map g) = s := by
  refine hull_eq ⟨?_, ?_, fun v hv => ?_⟩
  · obtain ⟨x, hx, e⟩ := hlo
    obtain ⟨y, hy, rfl⟩ := all_ref hx
    exact List.mem_map.2 ⟨y, hy, by rw [hg y hy, e]⟩
  · obtain ⟨x, hx, e⟩ := hhi
    obtain ⟨y, hy, rfl⟩ := all_ref hx
    exact List.mem_map.2 ⟨y, hy, by rw [hg y hy, e]⟩
  · obtain ⟨y, hy, rfl⟩ := List.mem_map.1 hv
    rw [hg y hy]
    exact hm _ (ref_all hy).2
/-! ### fines -/
def fineY (X : Till) (y : List Pr) (n : Nat) : Int := if turnT y.length (gt y) n then 0 else X.fine
def fineX (X : Till) (n : Nat) (x : Tru) : Int := if turnT X.tk.l.length x n then 0 else X.fine
theorem fineY_eq {X : Till} {y : List Pr} (h : y ∈ RF X.tk) (n : Nat) : fineY X y n = fineX X n (gt y) := by unfold fineY fineX; rw [(ref_all h).1]
theorem any_ex {l : List Tru} {f : Tru → Bool} (h : l.any f = true) : ∃ x, x ∈ l ∧ f x = true := List.any_eq_true.1 h
theorem fine_hull {X : Till} (hb : tillB X = true) (hW : tksE X.tk true = 0) {n : Int} (hn : isT X.tk n = true) : hullL ((RF X.tk).map fun y => fineY X y n.toNat) = fineSp X n := by
  have hne := tks_0 (tillB_num hb).1 hW
  have hf := (tillB_num hb).2.2.1
  refine hull_ref (f := fineX X n.toNat) (fun y hy => fineY_eq hy _) ?_ ?_ ?_
  · simp only [fineSp, turn_0 hn hW]
    cases h1 : (allT X.tk).any fun t => turnT X.tk.l.length t n.toNat with
    | true =>
      obtain ⟨x, hx, e⟩ := any_ex h1
      refine ⟨x, hx, ?_⟩
      unfold fineX
      rw [if_pos e, if_pos]
      unfold gradeI
      cases (allT X.tk).any fun t => !turnT X.tk.l.length t n.toNat <;> decide
    | false =>
      rcases any_some hne fun t => turnT X.tk.l.length t n.toNat with h2 | h2
      · rw [h1] at h2; cases h2
      · obtain ⟨x, hx, e⟩ := any_ex h2
        refine ⟨x, hx, ?_⟩
        unfold fineX
        rw [if_neg (by simpa using e), h2, if_neg (by decide)]
  · simp only [fineSp, turn_0 hn hW]
    cases h1 : (allT X.tk).any fun t => !turnT X.tk.l.length t n.toNat with
    | true =>
      obtain ⟨x, hx, e⟩ := any_ex h1
      refine ⟨x, hx, ?_⟩
      unfold fineX
      rw [if_neg (by simpa using e), if_neg]
      unfold gradeI
      cases (allT X.tk).any fun t => turnT X.tk.l.length t n.toNat <;> decide
    | false =>
      rcases any_some hne fun t => turnT X.tk.l.length t n.toNat with h2 | h2
      · obtain ⟨x, hx, e⟩ := any_ex h2
        refine ⟨x, hx, ?_⟩
        unfold fineX
        rw [if_pos e, h2, if_pos (by decide)]
      · rw [h1] at h2; cases h2
  · intro x hx
    simp only [fineSp, turn_0 hn hW]
    cases ht : turnT X.tk.l.length x n.toNat with
    | true =>
      have h1 : ((allT X.tk).any fun t => turnT X.tk.l.length t n.toNat) = true := List.any_eq_true.2 ⟨x, hx, ht⟩
      have e : fineX X n.toNat x = 0 := by unfold fineX; rw [if_pos ht]
      rw [e, h1]
      constructor
      · split
        · exact Int.le_refl _
        · rename_i h; exact absurd (by unfold gradeI; cases (allT X.tk).any fun t => !turnT X.tk.l.length t n.toNat <;> decide) h
      · split <;> omega
    | false =>
      have h1 : ((allT X.tk).any fun t => !turnT X.tk.l.length t n.toNat) = true := List.any_eq_true.2 ⟨x, hx, by simp [ht]⟩
      have e : fineX X n.toNat x = X.fine := by unfold fineX; rw [if_neg (by simp [ht])]
      rw [e, h1]
      constructor
      · split <;> omega
      · split
        · rename_i h
          exfalso
          revert h
          unfold gradeI
          cases (allT X.tk).any fun t => turnT X.tk.l.length t n.toNat <;> decide
        · exact Int.le_refl _
def sumFi (X : Till) (y : List Pr) (k : Nat) : Int := ((List.range k).map fun i => fineY X y i).sum
theorem sumFi_succ (X : Till) (y : List Pr) (k : Nat) : sumFi X y (k + 1) = sumFi X y k + fineY X y k := by unfold sumFi; rw [List.range_succ, List.map_append, List.sum_append]; simp
theorem fineY_num {X : Till} (hb : tillB X = true) (y : List Pr) (n : Nat) : 0 ≤ fineY X y n ∧ fineY X y n ≤ 100 := by
  have hf := (tillB_num hb).2.2.1
  unfold fineY; split <;> omega
theorem sumFi_num {X : Till} (hb : tillB X = true) (y : List Pr) : ∀ k, 0 ≤ sumFi X y k ∧ sumFi X y k ≤ 100 * (k : Int) := by
  intro k
  induction k with
  | zero => simp [sumFi]
  | succ k ih => have := fineY_num hb y k; rw [sumFi_succ]; omega
theorem sumFi_odd (X : Till) (y : List Pr) : ∀ k, sumFi X y k = (((List.range k).filter fun i => !turnT y.length (gt y) i).length : Int) * X.fine := by
  intro k
  induction k with
  | zero => simp [sumFi]
  | succ k ih =>
    rw [sumFi_succ, ih, List.range_succ, List.filter_append, List.length_append]
    unfold fineY
    cases h : turnT y.length (gt y) k <;> simp [h, Int.add_mul]
theorem fines_hull {X : Till} (hb : tillB X = true) (hW : tksE X.tk true = 0) : hullL ((RF X.tk).map fun y => sumFi X y X.tk.l.length) = ⟨(WrongOut X.tk).1.lo * X.fine, (WrongOut X.tk).1.hi * X.fine⟩ := by
  have hne := tks_0 (tillB_num hb).1 hW
  have hf := (tillB_num hb).2.2.1
  have hs := spanS_spec (oddT X.tk.l.length) hne
  have hw : (WrongOut X.tk).1 = spanS (oddT X.tk.l.length) (allT X.tk) := by unfold WrongOut; rw [if_neg (by rw [hW]; simp)]
  rw [hw]
  refine hull_ref (f := fun x => oddT X.tk.l.length x * X.fine) (fun y hy => ?_) ?_ ?_ ?_
  · rw [sumFi_odd, (ref_all hy).1]; rfl
  · obtain ⟨x, hx, e⟩ := hs.lo; exact ⟨x, hx, by rw [e]⟩
  · obtain ⟨x, hx, e⟩ := hs.hi; exact ⟨x, hx, by rw [e]⟩
  · intro x hx
    have h := hs.mem x hx
    exact ⟨Int.mul_le_mul_of_nonneg_right h.1 hf.1, Int.mul_le_mul_of_nonneg_right h.2 hf.1⟩
/-! ### what is given back -/
def backY (X : Till) (y : List Pr) (n : Nat) : Int := ((gt y n).2 - (gt y n).1) / 10 * X.wait
def waitX (n : Nat) (x : Tru) : Int := ((x n).2 - (x n).1) / 10
theorem upd_sol {T : Tks} {x : Tru} (h : Sol T x) {i : Nat} (hi : i < T.l.length) {b : Int} (hb : pairP (gt T.l i) (b, (x i).2) = true) : Sol T (upd x i (b, (x i).2)) := by
  have hs : ∀ j, (upd x i (b, (x i).2) j).2 = (x j).2 := fun j => by
    by_cases e : j = i
    · subst e; rw [upd_same]
    · rw [upd_other _ _ e]
  refine ⟨fun j hj => ?_, fun j k hj hk hne hh => ?_, fun j hj => ?_⟩
  · by_cases e : j = i
    · subst e; rw [upd_same]; exact hb
    · rw [upd_other _ _ e]; exact h.pair j hj
  · rw [hs, hs]; exact h.apart j k hj hk hne hh
  · rw [upd_other _ _ (by omega)]; exact h.rest j hj
theorem wait_ends {T : Tks} (hv : tksB T = true) (hW : tksE T true = 0) {n : Int} (hn : isT T n = true) :
    (∃ x, x ∈ allT T ∧ waitX n.toNat x = (waitsSp T n).lo) ∧ (∃ x, x ∈ allT T ∧ waitX n.toNat x = (waitsSp T n).hi) ∧ (∀ x, x ∈ allT T → (waitsSp T n).lo ≤ waitX n.toNat x ∧ waitX n.toNat x ≤ (waitsSp T n).hi) ∧ (waitsSp T n).hi ≤ (waitsSp T n).lo + 1 := by
  have hne := tks_0 hv hW
  obtain ⟨hi, _⟩ := isT_lt hn
  have hb := spanS_spec (fun t => (t n.toNat).1) hne
  have hd := spanS_spec (fun t => (t n.toNat).2) hne
  have hnum := (tks_num hv).2.2 n.toNat hi
  have hpr : ∀ x, x ∈ allT T → _ := fun x hx => pairP_iff.1 ((mem_allT.1 hx).pair n.toNat hi)
  simp only [waitsSp, minutes_0 hn hW]
  generalize spanS (fun t => (t n.toNat).1) (allT T) = B at *
  generalize spanS (fun t => (t n.toNat).2) (allT T) = E at *
  obtain ⟨xb, hxb, eb⟩ := hb.lo
  obtain ⟨xB, hxB, eB⟩ := hb.hi
  obtain ⟨xd, hxd, ed⟩ := hd.lo
  obtain ⟨xD, hxD, eD⟩ := hd.hi
  have p1 := hpr xb hxb
  have p2 := hpr xB hxB
  have p3 := hpr xd hxd
  have p4 := hpr xD hxD
  have m1 := hb.mem xd hxd
  have m2 := hb.mem xD hxD
  have m3 := hd.mem xb hxb
  have m4 := hd.mem xB hxB
  refine ⟨⟨upd xd n.toNat (min B.hi E.lo, (xd n.toNat).2), mem_allT.2 (upd_sol (mem_allT.1 hxd) hi (pairP_iff.2 ⟨⟨?_, ?_⟩, p3.2.1, ?_⟩)), ?_⟩, ⟨upd xD n.toNat (B.lo, (xD n.toNat).2), mem_allT.2 (upd_sol (mem_allT.1 hxD) hi (pairP_iff.2 ⟨⟨?_, ?_⟩, p4.2.1, ?_⟩)), ?_⟩, fun x hx => ?_, ?_⟩
  · simp only; omega
  · simp only; omega
  · simp only; omega
  · unfold waitX; rw [upd_same]
    try simp only
    rw [show (xd n.toNat).2 - min B.hi E.lo = max 0 (E.lo - B.hi) by omega]
  · simp only; omega
  · simp only; omega
  · simp only; omega
  · unfold waitX; rw [upd_same]
    try simp only
    rw [show (xD n.toNat).2 - B.lo = E.hi - B.lo by omega]
  · have q := hpr x hx
    have q1 := hb.mem x hx
    have q2 := hd.mem x hx
    unfold waitX
    try simp only at q1 q2
    omega
  · omega
theorem back_hull {X : Till} (hb : tillB X = true) (hW : tksE X.tk true = 0) {n : Int} (hn : isT X.tk n = true) : hullL ((RF X.tk).map fun y => backY X y n.toNat) = backSp X n := by
  have hw := (tillB_num hb).2.2.2
  obtain ⟨⟨x1, h1, e1⟩, ⟨x2, h2, e2⟩, h3, _⟩ := wait_ends (tillB_num hb).1 hW hn
  refine hull_ref (f := fun x => X.wait * waitX n.toNat x) (fun y _ => Int.mul_comm _ _) ⟨x1, h1, by rw [e1]; rfl⟩ ⟨x2, h2, by rw [e2]; rfl⟩ fun x hx => ?_
  have h := h3 x hx
  exact ⟨Int.mul_le_mul_of_nonneg_left h.1 hw.1, Int.mul_le_mul_of_nonneg_left h.2 hw.1⟩
/-! ### what can be due -/
def canY (X : Till) (t m k : Int) (y : List Pr) : Bool := if k = 1 then decide (m = X.price) else if k = 2 then decide (m = X.fine) && !turnT y.length (gt y) t.toNat else decide (m = backY X y t.toNat)
theorem can_ref {X : Till} (hb : tillB X = true) (hW : tksE X.tk true = 0) {t k : Int} (hn : isT X.tk t = true) (hk : 1 ≤ k ∧ k ≤ 3) (m : Int) : (RF X.tk).any (canY X t m k) = canOf X t m k.toNat := by
  have hne : RF X.tk ≠ [] := fun e => tks_0 (tillB_num hb).1 hW (ref_ne.1 e)
  rw [Bool.eq_iff_iff, List.any_eq_true]
  rcases (show k = 1 ∨ k = 2 ∨ k = 3 by omega) with rfl | rfl | rfl
  · have e : ∀ y, canY X t m 1 y = decide (m = X.price) := fun y => by unfold canY; rw [if_pos rfl]
    simp only [e, show canOf X t m (1 : Int).toNat = priceCan X t m from rfl, priceCan, hn, Bool.and_true]
    constructor
    · rintro ⟨_, _, h⟩; exact h
    · intro h
      obtain ⟨y, hy⟩ := List.exists_mem_of_ne_nil _ hne
      exact ⟨y, hy, h⟩
  · have e : ∀ y, canY X t m 2 y = (decide (m = X.fine) && !turnT y.length (gt y) t.toNat) := fun y => by unfold canY; rw [if_neg (by decide), if_pos rfl]
    simp only [e, show canOf X t m (2 : Int).toNat = fineCan X t m from rfl, fineCan, hn, Bool.and_true, turn_0 hn hW, Bool.and_eq_true, decide_eq_true_eq, Ne, grade_2]
    constructor
    · rintro ⟨y, hy, h1, h2⟩
      refine ⟨fun h => ?_, h1⟩
      have h3 := List.any_eq_false.1 h.2 _ (ref_all hy).2
      rw [← (ref_all hy).1] at h3
      exact h3 h2
    · rintro ⟨h1, h2⟩
      rcases any_some (tks_0 (tillB_num hb).1 hW) fun t_1 => turnT X.tk.l.length t_1 t.toNat with h3 | h3
      · cases h4 : (allT X.tk).any fun t_1 => !turnT X.tk.l.length t_1 t.toNat with
        | false => exact absurd ⟨h3, h4⟩ h1
        | true =>
          obtain ⟨x, hx, hx2⟩ := any_ex h4
          obtain ⟨y, hy, rfl⟩ := all_ref hx
          exact ⟨y, hy, h2, by rw [(ref_all hy).1]; exact hx2⟩
      · obtain ⟨x, hx, hx2⟩ := any_ex h3
        obtain ⟨y, hy, rfl⟩ := all_ref hx
        exact ⟨y, hy, h2, by rw [(ref_all hy).1]; exact hx2⟩
  · have e : ∀ y, canY X t m 3 y = decide (m = backY X y t.toNat) := fun y => by unfold canY; rw [if_neg (by decide), if_neg (by decide)]
    simp only [e, show canOf X t m (3 : Int).toNat = backCan X t m from rfl, backCan, List.any_eq_true, decide_eq_true_eq]
    obtain ⟨⟨x1, h1, e1⟩, ⟨x2, h2, e2⟩, h3, h4⟩ := wait_ends (tillB_num hb).1 hW hn
    constructor
    · rintro ⟨y, hy, h⟩
      have h5 := h3 _ (ref_all hy).2
      exact ⟨waitX t.toNat (gt y), mem_rng.2 h5, h.symm⟩
    · rintro ⟨j, hj, h⟩
      have hj' := mem_rng.1 hj
      rcases (show j = (waitsSp X.tk t).lo ∨ j = (waitsSp X.tk t).hi by omega) with h5 | h5
      · obtain ⟨y, hy, rfl⟩ := all_ref h1
        exact ⟨y, hy, by rw [← h, h5, ← e1]; rfl⟩
      · obtain ⟨y, hy, rfl⟩ := all_ref h2
        exact ⟨y, hy, by rw [← h, h5, ← e2]; rfl⟩
/-! ### what is surely due -/
theorem pos_hull {l : List Int} {s : Sp} (h : l ≠ []) (e : hullL l = s) : (l.all fun v => decide (v > 0)) = decide (s.lo > 0) := by
  have hs := hullL_spec h
  rw [e] at hs
  rw [Bool.eq_iff_iff, List.all_eq_true, decide_eq_true_eq]
  constructor
  · intro h1; exact of_decide_eq_true (h1 _ hs.lo)
  · intro h1 v hv
    have := hs.mem v hv
    exact decide_eq_true (by omega)
theorem fine_all {X : Till} (hb : tillB X = true) (hW : tksE X.tk true = 0) {n : Int} (hn : isT X.tk n = true) : ((RF X.tk).all fun y => decide (fineY X y n.toNat > 0)) = decide ((fineSp X n).lo > 0) := by
  have hne : RF X.tk ≠ [] := fun e => tks_0 (tillB_num hb).1 hW (ref_ne.1 e)
  rw [← pos_hull (l := (RF X.tk).map fun y => fineY X y n.toNat) (by simpa using hne) (fine_hull hb hW hn), List.all_map]
  rfl
theorem back_all {X : Till} (hb : tillB X = true) (hW : tksE X.tk true = 0) {n : Int} (hn : isT X.tk n = true) : ((RF X.tk).all fun y => decide (backY X y n.toNat > 0)) = decide ((backSp X n).lo > 0) := by
  have hne : RF X.tk ≠ [] := fun e => tks_0 (tillB_num hb).1 hW (ref_ne.1 e)
  rw [← pos_hull (l := (RF X.tk).map fun y => backY X y n.toNat) (by simpa using hne) (back_hull hb hW hn), List.all_map]
  rfl
end Go.Ti
/- The truth that draws make: valid tickets with their moments, and the book that is due in it. No program in sight. -/
namespace Go.Ti
open Go.W (gt gt_of)
def drawV (by_ : List Int) (j : Nat) (n : Int) : Int := if by_.length = 0 then (j : Int) % n else (gt by_ (j % by_.length) + 97 * (j : Int)) % n
theorem drawV_num (by_ : List Int) (j : Nat) {n : Int} (h : 1 ≤ n) : 0 ≤ drawV by_ j n ∧ drawV by_ j n < n := by
  unfold drawV; split
  · exact ⟨Int.emod_nonneg _ (by omega), Int.emod_lt_of_pos _ (by omega)⟩
  · exact ⟨Int.emod_nonneg _ (by omega), Int.emod_lt_of_pos _ (by omega)⟩
def arnd (n : Int) (s : Sp) : Prop := 0 ≤ s.lo ∧ s.lo ≤ n ∧ n ≤ s.hi ∧ s.hi - s.lo ≤ 2 ∧ s.hi ≤ n + 2
structure MadeI (huts : Int) (k : Nat) (ts : List Tick) (y : List Pr) (free : List Int) : Prop where
  lt : ts.length = k
  ly : y.length = k
  lf : (free.length : Int) = huts
  fr : ∀ h, h < free.length → 0 ≤ gt free h ∧ gt free h ≤ 39 * (k : Int)
  tk : ∀ i, i < k → (0 ≤ (gt ts i).hut ∧ (gt ts i).hut < huts) ∧ spanT (gt ts i).bought = true ∧ spanT (gt ts i).door = true ∧ pairP (gt ts i) (gt y i) = true
  st : ∀ i, i < k → (gt y i).2 + 30 ≤ gt free (gt ts i).hut.toNat
  ap : ∀ i j, i < j → j < k → (gt ts i).hut = (gt ts j).hut → (gt y i).2 + 30 ≤ (gt y j).2
theorem gt_rep {n h : Nat} : gt (List.replicate n (0 : Int)) h = 0 := by
  unfold gt
  rw [List.getD_eq_getElem?_getD, List.getElem?_replicate]
  split <;> rfl
theorem MadeI.start {huts : Int} (h : 0 ≤ huts) : MadeI huts 0 [] [] (List.replicate huts.toNat 0) :=
  ⟨rfl, rfl, by rw [List.length_replicate]; omega, fun i hi => by rw [gt_rep]; omega, fun i hi => by omega, fun i hi => by omega, fun i j _ hj => by omega⟩
theorem gt_end {α : Type} [Inhabited α] (l : List α) (x : α) {k : Nat} (h : l.length = k) : gt (l ++ [x]) k = x := by subst h; simp [gt, List.getD]
theorem MadeI.step {huts : Int} {k : Nat} {ts : List Tick} {y : List Pr} {free : List Int} (H : MadeI huts k ts y free) (hk : k < 5) {h : Nat} (hh : h < free.length) {a b e : Int} {sa sb : Sp}
    (hb : gt free h ≤ b ∧ b ≤ gt free h + 7) (ha : 0 ≤ a ∧ a ≤ b) (he : b + 30 ≤ e ∧ e ≤ b + 32) (h1 : arnd a sa) (h2 : arnd b sb) : MadeI huts (k + 1) (ts ++ [⟨sa, (h : Int), sb⟩]) (y ++ [(a, b)]) (free.set h e) := by
  have hf := H.fr h hh
  have hlt := H.lt
  have hly := H.ly
  have hlf := H.lf
  unfold arnd at h1 h2
  have g1 : ∀ i, i < k → gt (ts ++ [⟨sa, (h : Int), sb⟩]) i = gt ts i := fun i hi => gt_app_left (by omega)
  have g2 : ∀ i, i < k → gt (y ++ [(a, b)]) i = gt y i := fun i hi => gt_app_left (by omega)
  have g3 := gt_end ts ⟨sa, (h : Int), sb⟩ hlt
  have g4 := gt_end y (a, b) hly
  refine ⟨by rw [List.length_append, hlt]; rfl, by rw [List.length_append, hly]; rfl, by rw [List.length_set]; exact hlf, fun i hi => ?_, fun i hi => ?_, fun i hi => ?_, fun i j hij hj => ?_⟩
  · rw [List.length_set] at hi
    rw [gt_set _ _ _ _ hh]
    have := H.fr i hi
    split <;> omega
  · rcases Nat.lt_or_ge i k with hik | hik
    · rw [g1 i hik, g2 i hik]; exact H.tk i hik
    · have : i = k := by omega
      subst this
      rw [g3, g4]
      refine ⟨⟨by show (0 : Int) ≤ (h : Int); omega, by show (h : Int) < huts; omega⟩, decide_eq_true ?_, decide_eq_true ?_, decide_eq_true ⟨⟨h1.2.1, h1.2.2.1⟩, ⟨h2.2.1, h2.2.2.1⟩, ha.2⟩⟩
      · exact ⟨h1.1, by show sa.lo ≤ sa.hi; omega, by show sa.hi ≤ 240; omega, h1.2.2.2.1⟩
      · exact ⟨h2.1, by show sb.lo ≤ sb.hi; omega, by show sb.hi ≤ 240; omega, h2.2.2.2.1⟩
  · rcases Nat.lt_or_ge i k with hik | hik
    · rw [g1 i hik, g2 i hik, gt_set _ _ _ _ hh]
      have h5 := H.st i hik
      split
      · rename_i e1; rw [← e1] at h5; omega
      · exact h5
    · have : i = k := by omega
      subst this
      rw [g3, g4, gt_set _ _ _ _ hh, if_pos (by show h = ((h : Int)).toNat; omega)]
      show b + 30 ≤ e
      omega
  · rcases Nat.lt_or_ge j k with hjk | hjk
    · rw [g1 i (by omega), g2 i (by omega), g1 j hjk, g2 j hjk]; exact H.ap i j hij hjk
    · have : j = k := by omega
      subst this
      rw [g1 i (by omega), g2 i (by omega), g3, g4]
      intro e1
      have h5 := H.st i hij
      rw [e1] at h5
      rw [show ((⟨sa, (h : Int), sb⟩ : Tick).hut).toNat = h by show ((h : Int)).toNat = h; omega] at h5
      show (gt y i).2 + 30 ≤ b
      omega
theorem MadeI.valid {huts : Int} {k : Nat} {ts : List Tick} {y : List Pr} {free : List Int} (H : MadeI huts k ts y free) (hk : k ≤ 5) (hh : 1 ≤ huts ∧ huts ≤ 4) : tksB ⟨huts, ts⟩ = true := by
  refine (tksB_iff _).2 ⟨hh, by show ts.length ≤ 5; rw [H.lt]; exact hk, fun i hi => ?_⟩
  have hi' : i < k := by rw [← H.lt]; exact hi
  have h1 := H.tk i hi'
  show tickB ⟨huts, ts⟩ (gt ts i) = true
  unfold tickB hutT
  rw [h1.2.1, h1.2.2.1, decide_eq_true (show 0 ≤ (gt ts i).hut ∧ (gt ts i).hut ≤ huts - 1 by omega)]
  rfl
theorem MadeI.sol {huts : Int} {k : Nat} {ts : List Tick} {y : List Pr} {free : List Int} (H : MadeI huts k ts y free) : y.length = ts.length ∧ Sol ⟨huts, ts⟩ (gt y) := by
  have hl := H.lt
  refine ⟨by rw [H.ly, hl], ⟨fun i hi => (H.tk i (by rw [← hl]; exact hi)).2.2.2, fun i j hi hj hne he => ?_, fun i hi => ?_⟩⟩
  · have hi' : i < k := by rw [← hl]; exact hi
    have hj' : j < k := by rw [← hl]; exact hj
    refine decide_eq_false ?_
    rcases Nat.lt_or_ge i j with h | h
    · have := H.ap i j h hj' he; omega
    · have := H.ap j i (by omega) hi' he.symm; omega
  · have hi' : ts.length ≤ i := hi
    exact gt_out (by rw [H.ly, ← hl]; exact hi')
/-! ### the book that is due in a truth -/
def dueF (X : Till) (y : List Pr) (i : Nat) : List Ent := if fineY X y i > 0 then [⟨(i : Int), 2, fineY X y i⟩] else []
def dueB (X : Till) (y : List Pr) (i : Nat) : List Ent := if backY X y i > 0 then [⟨(i : Int), 3, backY X y i⟩] else []
def dueY (X : Till) (y : List Pr) (i : Nat) : List Ent := (⟨(i : Int), 1, X.price⟩ :: dueF X y i) ++ dueB X y i
def bookY (X : Till) (y : List Pr) : Nat → List Ent
  | 0 => []
  | n + 1 => bookY X y n ++ dueY X y n
theorem dueY_mem {X : Till} {y : List Pr} {i : Nat} {e : Ent} : e ∈ dueY X y i ↔ e = ⟨(i : Int), 1, X.price⟩ ∨ (fineY X y i > 0 ∧ e = ⟨(i : Int), 2, fineY X y i⟩) ∨ (backY X y i > 0 ∧ e = ⟨(i : Int), 3, backY X y i⟩) := by
  unfold dueY dueF dueB
  by_cases h1 : fineY X y i > 0 <;> by_cases h2 : backY X y i > 0 <;> simp only [h1, h2, if_true, if_false, true_and, false_and, or_false, false_or, List.cons_append, List.nil_append, List.append_nil, List.mem_cons, List.not_mem_nil]
theorem bookY_mem {X : Till} {y : List Pr} {n : Nat} {e : Ent} : e ∈ bookY X y n ↔ ∃ i, i < n ∧ e ∈ dueY X y i := by
  induction n with
  | zero => simp [bookY]
  | succ n ih =>
    rw [bookY, List.mem_append, ih]
    constructor
    · rintro (⟨i, hi, h⟩ | h)
      · exact ⟨i, by omega, h⟩
      · exact ⟨n, by omega, h⟩
    · rintro ⟨i, hi, h⟩
      rcases Nat.lt_or_ge i n with h1 | h1
      · exact .inl ⟨i, h1, h⟩
      · have : i = n := by omega
        subst this; exact .inr h
theorem dueY_tick {X : Till} {y : List Pr} {i : Nat} {e : Ent} (h : e ∈ dueY X y i) : e.ticket = (i : Int) ∧ 1 ≤ e.kind ∧ e.kind ≤ 3 := by
  rcases dueY_mem.1 h with rfl | ⟨_, rfl⟩ | ⟨_, rfl⟩
  · exact ⟨rfl, Int.le_refl 1, by show (1 : Int) ≤ 3; omega⟩
  · exact ⟨rfl, by show (1 : Int) ≤ 2; omega, by show (2 : Int) ≤ 3; omega⟩
  · exact ⟨rfl, by show (1 : Int) ≤ 3; omega, Int.le_refl 3⟩
theorem dueY_len (X : Till) (y : List Pr) (i : Nat) : 1 ≤ (dueY X y i).length ∧ (dueY X y i).length ≤ 3 := by
  unfold dueY dueF dueB
  split <;> split <;> simp
theorem bookY_len (X : Till) (y : List Pr) : ∀ n, (bookY X y n).length ≤ 3 * n := by
  intro n
  induction n with
  | zero => simp [bookY]
  | succ n ih =>
    rw [bookY, List.length_append]
    have := (dueY_len X y n).2
    omega
theorem dueY_pair (X : Till) (y : List Pr) (i : Nat) : (dueY X y i).Pairwise fun a b => ¬ sameK a b := by
  unfold dueY dueF dueB sameK
  split <;> split <;> simp
theorem bookY_pair (X : Till) (y : List Pr) : ∀ n, (bookY X y n).Pairwise fun a b => ¬ sameK a b := by
  intro n
  induction n with
  | zero => exact List.Pairwise.nil
  | succ n ih =>
    rw [bookY, List.pairwise_append]
    refine ⟨ih, dueY_pair X y n, fun a ha b hb hs => ?_⟩
    obtain ⟨i, hi, h⟩ := bookY_mem.1 ha
    have h1 := (dueY_tick h).1
    have h2 := (dueY_tick hb).1
    have h3 := hs.1
    omega
theorem backY_num {X : Till} (hb : tillB X = true) {y : List Pr} (hy : y ∈ RF X.tk) {i : Nat} (hi : i < X.tk.l.length) : 0 ≤ backY X y i ∧ backY X y i ≤ 2400 := by
  have h := tillB_num hb
  have h1 := sol_num h.1 (ref_all hy).2 hi
  have h2 := mul_100 h.2.2.2 (k := ((gt y i).2 - (gt y i).1) / 10) (by omega)
  unfold backY
  rw [Int.mul_comm]
  exact h2
theorem bookY_can {X : Till} (hb : tillB X = true) (hW : tksE X.tk true = 0) {y : List Pr} (hy : y ∈ RF X.tk) {n : Nat} (hn : n ≤ X.tk.l.length) {e : Ent} (he : e ∈ bookY X y n) : canOf X e.ticket e.pence e.kind.toNat = true := by
  obtain ⟨i, hi, h⟩ := bookY_mem.1 he
  have hk := dueY_tick h
  have hT : isT X.tk (i : Int) = true := decide_eq_true (by omega)
  rw [hk.1, ← can_ref hb hW hT hk.2 e.pence]
  refine List.any_eq_true.2 ⟨y, hy, ?_⟩
  unfold canY
  rcases dueY_mem.1 h with rfl | ⟨h1, rfl⟩ | ⟨h1, rfl⟩
  · rw [if_pos rfl]; exact decide_eq_true rfl
  · rw [if_neg (by show ¬ (2 : Int) = 1; omega), if_pos rfl, Int.toNat_natCast]
    unfold fineY at h1 ⊢
    split at h1
    · omega
    · rename_i h2
      rw [if_neg h2]
      simp [h2]
  · rw [if_neg (by show ¬ (3 : Int) = 1; omega), if_neg (by show ¬ (3 : Int) = 2; omega), Int.toNat_natCast]
    exact decide_eq_true rfl
theorem bookY_all {X : Till} {y : List Pr} {n : Nat} (hn : n ≤ X.tk.l.length) : (bookY X y n).all (entB X) = true := by
  rw [List.all_eq_true]
  intro e he
  obtain ⟨i, hi, h⟩ := bookY_mem.1 he
  have hk := dueY_tick h
  unfold entB
  rw [hk.1, show isT X.tk (i : Int) = true from decide_eq_true (by omega), show inB e.kind 1 3 = true from decide_eq_true hk.2]; rfl
theorem bookY_right {X : Till} (hb : tillB X = true) (hW : tksE X.tk true = 0) {y : List Pr} (hy : y ∈ RF X.tk) : RightB X (bookY X y X.tk.l.length) := ⟨bookY_pair X y _, fun e he => bookY_can hb hW hy (Nat.le_refl _) he⟩
/-! ### what is told is so -/
theorem in_hull {l : List Int} {s : Sp} (e : hullL l = s) {v : Int} (hv : v ∈ l) : s.lo ≤ v ∧ v ≤ s.hi := by
  have h := hullL_spec (l := l) (by intro e; rw [e] at hv; simp at hv)
  rw [e] at h
  exact h.mem v hv
theorem fine_in {X : Till} (hb : tillB X = true) (hW : tksE X.tk true = 0) {y : List Pr} (hy : y ∈ RF X.tk) {i : Nat} (hi : i < X.tk.l.length) : (fineSp X (i : Int)).lo ≤ fineY X y i ∧ fineY X y i ≤ (fineSp X (i : Int)).hi :=
  in_hull (fine_hull hb hW (n := (i : Int)) (decide_eq_true (by omega))) (List.mem_map.2 ⟨y, hy, by rw [Int.toNat_natCast]⟩)
theorem back_in {X : Till} (hb : tillB X = true) (hW : tksE X.tk true = 0) {y : List Pr} (hy : y ∈ RF X.tk) {i : Nat} (hi : i < X.tk.l.length) : (backSp X (i : Int)).lo ≤ backY X y i ∧ backY X y i ≤ (backSp X (i : Int)).hi :=
  in_hull (back_hull hb hW (n := (i : Int)) (decide_eq_true (by omega))) (List.mem_map.2 ⟨y, hy, by rw [Int.toNat_natCast]⟩)
theorem fines_in {X : Till} (hb : tillB X = true) (hW : tksE X.tk true = 0) {y : List Pr} (hy : y ∈ RF X.tk) : (WrongOut X.tk).1.lo * X.fine ≤ sumFi X y X.tk.l.length ∧ sumFi X y X.tk.l.length ≤ (WrongOut X.tk).1.hi * X.fine :=
  in_hull (fines_hull hb hW) (List.mem_map.2 ⟨y, hy, rfl⟩)
/-! ### any order of the book -/
theorem perm_check {X : Till} (hb : tillB X = true) (hW : tksE X.tk true = 0) {y : List Pr} (hy : y ∈ RF X.tk) {l : List Ent} (hp : (bookY X y X.tk.l.length).Perm l) (hl : l.length ≤ 20) : CheckOut X l = (0, 0, 4) :=
  check_right hb hl (all_perm hp (bookY_all (Nat.le_refl _))) hW (right_perm hp (bookY_right hb hW hy))
theorem perm_told {X : Till} (hb : tillB X = true) (hW : tksE X.tk true = 0) {y : List Pr} {l : List Ent} (hp : (bookY X y X.tk.l.length).Perm l) (hl : l.length ≤ 20) : toldE X l = 0 := by
  rw [toldE_ok hb hl (all_perm hp (bookY_all (Nat.le_refl _))), hW]
theorem perm_miss {X : Till} (hb : tillB X = true) (hW : tksE X.tk true = 0) {y : List Pr} (hy : y ∈ RF X.tk) {l : List Ent} (hp : (bookY X y X.tk.l.length).Perm l) (hl : l.length ≤ 20) : MissOut X l = (0, 0, 0, 0) := by
  have hz : ∀ k, 1 ≤ k → k ≤ 3 → bitsI (missB X l k) X.tk.l.length = 0 := by
    intro k hk1 hk3
    refine bits_zero fun i hi => ?_
    by_cases hm : missB X l k i = true
    · obtain ⟨h1, h2⟩ := miss_iff.1 hm
      have hno : ∀ e, e ∈ dueY X y i → e.kind ≠ (k : Int) := by
        intro e he hke
        have h3 : bookedB l (i : Int) (k : Int) = true := booked_iff.2 ⟨e, hp.mem_iff.1 (bookY_mem.2 ⟨i, hi, he⟩), (dueY_tick he).1, hke⟩
        rw [h1] at h3; cases h3
      rcases (show k = 1 ∨ k = 2 ∨ k = 3 by omega) with rfl | rfl | rfl
      · exact absurd rfl (hno _ (dueY_mem.2 (.inl rfl)))
      · have h4 := (fine_in hb hW hy hi).1
        have h5 : (fineSp X (i : Int)).lo > 0 := by rcases h2 with h2 | h2; · omega
                                                    · exact h2
        exact absurd rfl (hno _ (dueY_mem.2 (.inr (.inl ⟨by omega, rfl⟩))))
      · have h4 := (back_in hb hW hy hi).1
        have h5 : (backSp X (i : Int)).lo > 0 := by rcases h2 with h2 | h2; · omega
                                                    · exact h2
        exact absurd rfl (hno _ (dueY_mem.2 (.inr (.inr ⟨by omega, rfl⟩))))
    · simpa using hm
  rw [missO_0 (perm_told hb hW hp hl), hz 1 (by omega) (by omega), hz 2 (by omega) (by omega), hz 3 (by omega) (by omega)]
  rfl
def sumT (X : Till) (y : List Pr) : Nat → Int
  | 0 => 0
  | n + 1 => sumT X y n + X.price + fineY X y n - backY X y n
theorem dueY_sum {X : Till} (hb : tillB X = true) {y : List Pr} (hy : y ∈ RF X.tk) {i : Nat} (hi : i < X.tk.l.length) : ((dueY X y i).map signI).sum = X.price + fineY X y i - backY X y i := by
  have h1 := fineY_num hb y i
  have h2 := backY_num hb hy hi
  unfold dueY dueF dueB
  split <;> split <;> simp [signI] <;> omega
theorem bookY_sum {X : Till} (hb : tillB X = true) {y : List Pr} (hy : y ∈ RF X.tk) : ∀ n, n ≤ X.tk.l.length → ((bookY X y n).map signI).sum = sumT X y n := by
  intro n
  induction n with
  | zero => intro _; rfl
  | succ n ih =>
    intro hn
    rw [bookY, List.map_append, List.sum_append, ih (by omega), dueY_sum hb hy (by omega), sumT]
    omega
theorem perm_sum {X : Till} (hb : tillB X = true) (hW : tksE X.tk true = 0) {y : List Pr} (hy : y ∈ RF X.tk) {l : List Ent} (hp : (bookY X y X.tk.l.length).Perm l) (hl : l.length ≤ 20) : SumOut X l = (sumT X y X.tk.l.length, 0) := by
  rw [sum_right hb hl (all_perm hp (bookY_all (Nat.le_refl _))) hW (right_perm hp (bookY_right hb hW hy)), sum_list, ← sumI_perm (hp.map signI), bookY_sum hb hy _ (Nat.le_refl _)]
theorem sumT_num {X : Till} (hb : tillB X = true) {y : List Pr} (hy : y ∈ RF X.tk) : ∀ n, n ≤ X.tk.l.length → -2400 * (n : Int) ≤ sumT X y n ∧ sumT X y n ≤ 200 * (n : Int) := by
  intro n
  induction n with
  | zero => intro _; exact ⟨Int.le_refl 0, Int.le_refl 0⟩
  | succ n ih =>
    intro hn
    have h1 := ih (by omega)
    have h2 := fineY_num hb y n
    have h3 := backY_num hb hy (i := n) (by omega)
    have h4 := (tillB_num hb).2.1
    rw [sumT]
    omega
/-! ### two entries are swapped -/
def swpE (l : List Ent) (i k : Nat) : List Ent := (l.set i (gt l k)).set k (gt l i)
theorem swpE_len (l : List Ent) (i k : Nat) : (swpE l i k).length = l.length := by simp [swpE]
theorem swpE_perm {l : List Ent} {i k : Nat} (hi : i < l.length) (hk : k < l.length) : l.Perm (swpE l i k) := by
  rw [List.perm_iff_count]
  intro x
  have e1 : gt l i = l[i] := by simp [gt, List.getD, hi]
  have e2 : gt l k = l[k] := by simp [gt, List.getD, hk]
  have es : swpE l i k = (l.set i l[k]).set k l[i] := by unfold swpE; rw [e1, e2]
  rw [es, List.count_set (by simpa using hk), List.count_set hi, List.getElem_set]
  have hp : 0 < l.count l[i] := List.count_pos_iff.2 (List.getElem_mem hi)
  have hq : 0 < l.count l[k] := List.count_pos_iff.2 (List.getElem_mem hk)
  by_cases h1 : l[i] = x
  · subst h1
    by_cases h2 : l[k] = l[i]
    · by_cases h3 : i = k <;> simp_all
    · have h3 : ¬ i = k := by intro e; subst e; exact h2 rfl
      simp [h2, h3]
  · by_cases h2 : l[k] = x
    · subst h2
      have h3 : ¬ i = k := by intro e; subst e; exact h1 rfl
      simp [h1, h3]
    · by_cases h3 : i = k <;> simp_all
end Go.Ti
