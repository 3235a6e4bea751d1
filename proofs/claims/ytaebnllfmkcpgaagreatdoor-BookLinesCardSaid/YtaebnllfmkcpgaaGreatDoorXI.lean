import Derived.Test.YtaebnllfmkcpgaaGreatDoorXK
set_option linter.unusedSimpArgs false
set_option linter.unusedVariables false
set_option linter.all false
set_option maxRecDepth 100000
set_option maxHeartbeats 1000000
/- Texts in plain words, 2: no text is too long; what is no text of anything. -/
namespace Go.Bk
/-! ### no text is longer than the limit -/
theorem unl_le : ∀ (ls : List Bs) (m : Nat), (∀ l ∈ ls, l.length ≤ m) → (unl ls).length ≤ ls.length * (m + 1)
  | [], m, _ => by simp [unl]
  | l :: ls, m, h => by
    have h1 := unl_le ls m fun x hx => h x (by simp [hx])
    have h2 := h l (by simp)
    rw [unl_cons, List.length_append, List.length_cons, List.length_cons, Nat.add_mul]; omega
theorem flat_le {α : Type} (f : α → Bs) (m : Nat) : ∀ l : List α, (∀ x ∈ l, (f x).length ≤ m) → (l.flatMap f).length ≤ l.length * m
  | [], _ => by simp
  | x :: l, h => by
    have h1 := flat_le f m l fun y hy => h y (by simp [hy])
    have h2 := h x (by simp)
    rw [List.flatMap_cons, List.length_append, List.length_cons, Nat.add_mul]; omega
theorem spanT_le {s : Sp} (h : Sp100 s) : (spanT s).length ≤ 6 := by
  have h1 := num_len h.1; have h2 := num_len h.2
  unfold spanT; split <;> simp <;> omega
theorem surf_len {s : Surf} (h : SurfOk s) : (putSurf s).length ≤ 1200 := by
  have hn := h.nhuts; have hw := h.nwater; have hv := h.same; have hr := h.rows; have hs := h.step
  have n1 := num_len (n := s.rows) ⟨by omega, by omega⟩; have n2 := num_len (n := s.step) ⟨by omega, by omega⟩
  have cl : ∀ (l : List Sp) (hi : Int), hi < 100 → (∀ x ∈ l, spB x 0 hi = true ∧ x.hi - x.lo ≤ 3) → (l.flatMap colT).length ≤ l.length * 6 := fun l hi hh hl => flat_le colT 6 l fun x hx => by
    have := sp100 (hl x hx).1 hh
    have a := two_len this.1; have b := two_len this.2
    simp only [colT, List.length_cons, List.length_append]; omega
  have := unl_le (surfL s) 60 fun l hl => by
    simp only [surfL, List.mem_cons, List.mem_map] at hl
    rcases hl with rfl | rfl | rfl | ⟨x, hx, rfl⟩
    · simp only [surf0, surfW, List.length_append, List.length_cons, List.length_nil]; omega
    · have := cl s.water 30 (by omega) h.water
      simp only [heightsT, waterW, List.length_append, List.length_cons, List.length_nil]; omega
    · have := cl s.waves 10 (by omega) h.waves
      simp only [heightsT, wavesW, List.length_append, List.length_cons, List.length_nil]; omega
    · have hh := h.huts x hx
      have a := two_len (n := x.floor) ⟨by omega, by omega⟩; have b := two_len (n := x.brake) ⟨by omega, by omega⟩; have c := num_len (n := x.row) ⟨by omega, by omega⟩
      simp only [hutT, hutW, List.length_append, List.length_cons, List.length_nil]; omega
  have h2 : (surfL s).length ≤ 8 := by simp [surfL]; omega
  unfold putSurf; omega
theorem flag_len {f : Flag} (h : FlagOk f) : (putFlag f).length ≤ 1200 := by
  have h1 := h.low; have h2 := h.quiet; have h3 := h.nhours; have h4 := h.nseen
  have n1 := num_len (n := f.low) ⟨by omega, by omega⟩; have n2 := num_len (n := f.high) ⟨by omega, by omega⟩; have n3 := num_len (n := f.quiet) ⟨by omega, by omega⟩
  have m1 : ∀ t, (markT t).length ≤ 1 := fun t => by unfold markT; split; simp; split <;> simp
  have e1 := flat_le (fun x => 32 :: hourT x) 8 f.hours fun x hx => by
    have a := spanT_le (sp100 (h.hours x hx).1 (by omega)); have b := m1 x.thunder
    simp only [hourT, List.length_cons, List.length_append]; omega
  have e2 := flat_le (fun x => 32 :: seenT x) 4 f.seen fun x hx => by
    have := h.seen x hx
    have a := num_len (n := x.hour) ⟨by omega, by omega⟩
    simp only [seenT, List.length_cons, List.length_append, List.length_nil]; omega
  have := unl_le (flagL f) 100 fun l hl => by
    simp only [flagL, List.mem_cons, List.not_mem_nil, or_false] at hl
    rcases hl with rfl | rfl | rfl
    · simp only [flag0, flagW, List.length_append, List.length_cons, List.length_nil]; omega
    · simp only [behind, hoursW, List.length_append, List.length_cons, List.length_nil]; omega
    · simp only [behind, seenW, List.length_append, List.length_cons, List.length_nil]; omega
  have h2 : (flagL f).length = 3 := rfl
  unfold putFlag; omega
theorem boats_len {b : Boats} (h : BoatsOk b) : (putBoats b).length ≤ 1200 := by
  have h1 := h.wide; have h2 := h.deep; have h3 := h.speed; have h4 := h.last; have h5 := h.n
  have n1 := num_len (n := b.wide) ⟨by omega, by omega⟩; have n2 := num_len (n := b.deep) ⟨by omega, by omega⟩; have n3 := num_len (n := b.speed) ⟨by omega, by omega⟩; have n4 := num_len (n := b.last) ⟨by omega, by omega⟩
  have := unl_le (boatsL b) 100 fun l hl => by
    simp only [boatsL, List.mem_cons, List.mem_map] at hl
    rcases hl with rfl | ⟨x, hx, rfl⟩
    · simp only [boats0, boatsW, List.length_append, List.length_cons, List.length_nil]; omega
    · have hl := (h.rows x hx).1
      have e1 := flat_le (fun y => 32 :: bseenT y) 17 x fun y hy => by
        obtain ⟨g1, g2, g3⟩ := bseen100 h (h.sn hx hy)
        have a := num_len g1; have b := spanT_le g2; have c := spanT_le g3
        simp only [bseenT, List.length_cons, List.length_append]; omega
      simp only [behind, boatW, List.length_append, List.length_cons, List.length_nil]; omega
  have h2 : (boatsL b).length ≤ 5 := by simp [boatsL]; omega
  unfold putBoats; omega
theorem readSurf_wr {x : Surf} (hx : surfB x = true) : readSurf (putSurf x) = (x, 0) := readSurf_put hx (surf_len (surfB_iff.1 hx))
theorem readFlag_wr {x : Flag} (hx : flagB x = true) : readFlag (putFlag x) = (x, 0) := readFlag_put hx (flag_len (flagB_iff.1 hx))
theorem readBoats_wr {x : Boats} (hx : boatsB x = true) : readBoats (putBoats x) = (x, 0) := readBoats_put hx (boats_len (boatsB_iff.1 hx))
/-! ### what is no text -/
structure Kind {X : Type} (is : X → Bool) (put : X → Bs) (L : X → List Bs) (c d : UInt8) : Prop where
  eq : ∀ x, put x = unl (L x)
  flat : ∀ x, is x = true → ∀ l ∈ L x, flat l
  head : ∀ x, ∃ r ls, L x = (c :: d :: r) :: ls
  big : ∀ x, ∀ l ∈ L x, ∃ e r, l = e :: r ∧ 97 ≤ e.toNat
  ne : c ≠ d
theorem kindSurf : Kind surfB putSurf surfL 115 117 := ⟨fun _ => rfl, fun _ h => surfL_flat (surfB_iff.1 h), fun x => ⟨_, _, rfl⟩, fun x l hl => by
  simp only [surfL, List.mem_cons, List.mem_map] at hl
  rcases hl with rfl | rfl | rfl | ⟨x, hx, rfl⟩ <;> exact ⟨_, _, rfl, by decide⟩, by decide⟩
theorem kindFlag : Kind flagB putFlag flagL 102 108 := ⟨fun _ => rfl, fun _ h => flagL_flat (flagB_iff.1 h), fun x => ⟨_, _, rfl⟩, fun x l hl => by
  simp only [flagL, List.mem_cons, List.not_mem_nil, or_false] at hl
  rcases hl with rfl | rfl | rfl <;> exact ⟨_, _, rfl, by decide⟩, by decide⟩
theorem kindBoats : Kind boatsB putBoats boatsL 98 111 := ⟨fun _ => rfl, fun _ h => boatsL_flat (boatsB_iff.1 h), fun x => ⟨_, _, rfl⟩, fun x l hl => by
  simp only [boatsL, List.mem_cons, List.mem_map] at hl
  rcases hl with rfl | ⟨x, hx, rfl⟩ <;> exact ⟨_, _, rfl, by decide⟩, by decide⟩
theorem unl_last : ∀ (ls : List Bs), ls ≠ [] → ∃ p, unl ls = p ++ [10]
  | [l], _ => ⟨l, by simp [unl]⟩
  | l :: m :: ls, _ => by
    obtain ⟨p, hp⟩ := unl_last (m :: ls) (by simp)
    exact ⟨l ++ 10 :: p, by rw [unl_cons, hp]; simp⟩
section
variable {X : Type} {is : X → Bool} {put : X → Bs} {L : X → List Bs} {c d : UInt8} (K : Kind is put L c d)
include K
theorem Kind.last (x : X) : ∃ p, put x = p ++ [10] := by
  obtain ⟨r, ls, e⟩ := K.head x
  rw [K.eq]; exact unl_last _ (by rw [e]; simp)
theorem Kind.front (x : X) : ∃ r, put x = c :: d :: r := by
  obtain ⟨r, ls, e⟩ := K.head x
  rw [K.eq, e, unl_cons]; exact ⟨_, rfl⟩
theorem Kind.noLine {x y : X} (hx : is x = true) (hy : is y = true) {l : Bs} (hl : Bk.flat l) (hb : ∀ e r, l = e :: r → e.toNat < 97) : put y ≠ put x ++ (l ++ [10]) := fun h => by
  have h2 : unl (L y) = unl (L x ++ [l]) := by rw [unl_append, ← K.eq, ← K.eq, h]; simp [unl]
  have h3 := unl_inj (K.flat y hy) (fun m hm => by
    rcases List.mem_append.1 hm with hm | hm
    · exact K.flat x hx m hm
    · rw [List.mem_singleton.1 hm]; exact hl) h2
  obtain ⟨e, r, h4, h5⟩ := K.big y l (by rw [h3]; simp)
  have := hb e r h4
  omega
theorem Kind.noEnd {x y : X} (hx : is x = true) (hy : is y = true) (b : UInt8) : put y ≠ put x ++ [b] := fun h => by
  obtain ⟨p, hp⟩ := K.last y
  rw [hp] at h
  have h2 := List.append_inj' h rfl
  obtain rfl : (10 : UInt8) = b := by simpa using h2.2
  exact K.noLine hx hy (l := []) flat_nil (fun _ _ h => nomatch h) (by rw [hp]; exact h)
theorem Kind.noStart (x y : X) (b : UInt8) : put y ≠ b :: put x := fun h => by
  obtain ⟨r, h1⟩ := K.front x
  obtain ⟨r2, h2⟩ := K.front y
  rw [h1, h2] at h
  simp only [List.cons.injEq] at h
  exact K.ne h.2.1.symm
theorem Kind.noDrop {x y : X} (hx : is x = true) (hy : is y = true) : put y ≠ (put x).dropLast := fun h => by
  obtain ⟨p, hp⟩ := K.last x
  rw [hp, List.dropLast_concat] at h
  exact K.noEnd hy hx 10 (by rw [hp, h])
end
theorem Kind.other {X Y : Type} {is : X → Bool} {put : X → Bs} {L : X → List Bs} {c d : UInt8} {is2 : Y → Bool} {put2 : Y → Bs} {L2 : Y → List Bs} {c2 d2 : UInt8} (K : Kind is put L c d) (K2 : Kind is2 put2 L2 c2 d2) (h : c ≠ c2) (x : X) (y : Y) : put x ≠ put2 y := fun e => by
  obtain ⟨r, h1⟩ := K.front x
  obtain ⟨r2, h2⟩ := K2.front y
  rw [h1, h2] at e
  exact h (List.cons.inj e).1
theorem readX_bad {X : Type} {z : X} {take : X → Nat → Bs → Option X} {is : X → Bool} {put : X → Bs} {s : Bs} (h : ∀ y, is y = true → put y ≠ s) : (readX z take is put s).2 = if 1200 < s.length then 3 else 8 := by
  by_cases e : (readX z take is put s).2 = 0
  · obtain ⟨x, hx⟩ := readX_err e
    obtain ⟨h1, h2, _⟩ := readX_of hx
    exact absurd h2 (h x h1)
  · rw [readX_no e]
end Go.Bk
