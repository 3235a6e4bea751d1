import Derived.Test.YtejgofaeafphjaaGreatDoorXG5
import Derived.Test.YtejgofaeafphjaaGreatDoorXG1
import Derived.Test.YtejgofaeafphjaaGreatDoorXG4
import Derived.Test.YtejgofaeafphjaaGreatDoorXG2
set_option linter.all false
set_option maxRecDepth 100000
set_option maxHeartbeats 4000000
attribute [local irreducible] Go.W.WL Go.W.WLF Go.W.WC Go.W.WCF Go.W.WP Go.W.WA Go.W.WQ Go.W.WH Go.W.WHo Go.W.WCn Go.W.Yd Go.W.Qt Go.W.SO Go.Code.wp Go.Code.wpIn
namespace Go.Proofs.YtejgofaeafphjaaGreatDoor
open Go.W Go.Ti
theorem xz (cs vs : List Value) (h : vs.length = cs.length) : splice cs 0 vs = vs ++ [] := by simp [splice, h]
def owX (o : Option Ow) (n : Nat) : Prop := (o = none ∧ n = 0) ∨ ∃ u, o = some u ∧ u.cap = n ∧ n ≠ 0
def frD (D : Imm) (a : Option Addr) : Prop := ∀ ad, a = some ad → D ad.block = none
theorem frD.of {w : World} {D D' : Imm} (hX : DExt w D D') {a : Option Addr} (h : frD D' a) : frD D a := fun ad e => hX.no (h ad e)
theorem holds_none {w : World} {D : Imm} (h : Holds D w) {b : Nat} (hb : w.heap.size ≤ b) : D b = none := by
  cases hd : D b with
  | none => rfl
  | some o =>
    have h1 := h b o hd;rw [Array.getElem?_eq_none hb] at h1;cases h1
theorem q6 {P : Program} {f : FuncId} {vals : List Value} {w : World} {D : Imm} (hH : Holds D w) {α : Type} [Inhabited α] {gg : α → List Value} {m : Nat} (hg : ∀ x, (gg x).length = m) {l : List α} {E : TypeId}
    (h : News P f vals w D (fun v D' h' => D' = D ∧ ∃ o, v = owV o l.length ∧ owP w o l.length m ∧ owX o l.length ∧ h' = owH o E (l.flatMap gg) [])) : y6 P f vals w D (fun v D' => ∃ a c, v = .slice a l.length c ∧ SlL D' m (l.map gg) a l.length ∧ l.length ≤ c ∧ frD D a) :=
  h.mono fun e w' ⟨v, D', hpc', he, hX, hI, hD, o, hv, ho, _, hh⟩ => by
    subst hD; subst hh; subst hv;obtain ⟨D2, hX2, hS, hI2⟩ := Inv.freezeOw hg [] [] o E l ho hI;refine ⟨_, D2, he, hI2.keep, hI2.imm, hX2, owAt o, owCp o l.length, xg (wt ho), hS, ?_⟩;cases o with
    | none => have h0 : l.length = 0 := ho
              rw [h0]; exact ⟨Nat.zero_le _, fun _ h => by cases h⟩
    | some u => exact ⟨ho.2.1, fun _ h => by cases h; exact holds_none hH ho.1⟩
structure Sl where
  a : Option Addr
  n : Nat
  c : Nat
def Sl.v (s : Sl) : Value := .slice s.a s.n s.c
def nilS : Sl := ⟨none, 0, 0⟩
def fitS (s : Sl) : Prop := s.c = s.n ∧ (s.n = 0 → s.a = none)
theorem VL {o : Option Ow} {n : Nat} (h : owX o n) : fitS ⟨owAt o, n, owCp o n⟩ := by
  rcases h with ⟨rfl, rfl⟩ | ⟨u, rfl, hc, hn⟩
  · exact ⟨rfl, fun _ => rfl⟩
  exact ⟨hc, fun e => absurd e hn⟩
structure yG (D : Imm) (x : Wick) (m s : Sl) : Prop where
  mark : SlL D 3 (x.marks.map ub) m.a m.n
  sand : SlL D 2 (x.sand.map ul) s.a s.n
  len : m.n ≤ 1000 ∧ s.n ≤ 1000
structure DayR (D : Imm) (d : Day) (t l b : Sl) : Prop where
  tks : SlL D 5 (d.tks.map yc) t.a t.n
  looks : SlL D 4 (d.looks.map ym) l.a l.n
  book : SlL D 3 (d.book.map entC) b.a b.n
  len : t.n ≤ 1000 ∧ l.n ≤ 1000 ∧ b.n ≤ 1000
  cap : t.n ≤ t.c ∧ l.n ≤ l.c ∧ b.n ≤ b.c
theorem yG.ext {w : World} {D D' : Imm} (hD : DExt w D D') {x : Wick} {m s : Sl} (h : yG D x m s) : yG D' x m s := ⟨h.mark.ext hD, h.sand.ext hD, h.len⟩
theorem DayR.ext {w : World} {D D' : Imm} (hD : DExt w D D') {d : Day} {t l b : Sl} (h : DayR D d t l b) : DayR D' d t l b := ⟨h.tks.ext hD, h.looks.ext hD, h.book.ext hD, h.len, h.cap⟩
def womC (x : Wick) (m s t l b : Sl) : List Value := [it x.huts, it x.price, it x.fine, it x.wait, m.v, s.v, t.v, l.v, b.v, .bool true]
def womO (x : Wick) (m s t l b : Sl) : Obj := .cells (List.toArray (womC x m s t l b)) 99 (0, 0)
theorem DayR.nil (D : Imm) : DayR D day0 nilS nilS nilS := ⟨SlL.nil _ _, SlL.nil _ _, SlL.nil _ _, by simp [nilS], by simp [nilS]⟩
theorem wK {D : Imm} {x : Wick} {d : Day} {m s t l b : Sl} (hw : yG D x m s) (hd : DayR D d t l b) : yo D (zE x d) m.a m.n s.a s.n l.a l.n := ⟨hw.mark, hw.sand, hd.looks, hw.len.1, hw.len.2, hd.len.2.1⟩
theorem wM {D : Imm} {x : Wick} {d : Day} {t l b : Sl} (hd : DayR D d t l b) : TksR D (tksW x d) t.a t.n := ⟨hd.tks, hd.len.1⟩
theorem zaQ (x : Go.Ti.Mark) : ∀ v ∈ ub x, v.oneCell' = true := fun v hv => by
  simp only [ub, List.mem_cons, List.not_mem_nil, or_false] at hv;rcases hv with rfl | rfl | rfl <;> rfl
theorem Jy (l : List Go.Ti.Mark) : ∀ v ∈ l.flatMap ub, v.oneCell' = true := fun v hv => by
  obtain ⟨x, _, h⟩ := List.mem_flatMap.1 hv;exact zaQ x v h
theorem Zn (l : List Go.Ti.Mark) (a : Option Addr) (n c : Nat) (D : Imm) (hS : SlL D 3 (l.map ub) a n) (hn : n ≤ 1000) (w w0 : World) (hs0 : w0.heap.size ≤ w.heap.size) (hH : Holds D w) : News Tryz.prog 63 [.slice a n c] w D (fun v D' h' => D' = D ∧ ∃ o, v = owV o l.length ∧ owP w0 o l.length 3 ∧ owX o l.length ∧ h' = owH o 62 (l.flatMap ub) []) := by
  unfold News;obtain rfl := hS.len';refine en Tryz.func63 rfl Tryz.ntmps63 (Inv.start hH) (g [[1],[6,0],[6,2,0]] ?_);refine WC.cond rfl (fun c6 => ?_) (fun c6 => ?_)
  · try simp only [zq] at c6
    obtain rfl : l = [] := List.length_eq_zero_iff.1 (by omega);refine g [[1],[6,2,0]] ?_;refine WP.ret1 rfl rfl rfl (RV.tmp rfl) (fun w1 hI => ⟨_, D, [], rfl, DExt.refl _ _, hI, rfl, none, rfl, rfl, .inl ⟨rfl, rfl⟩, rfl⟩)
  try simp only [zq] at c6
  have hne : l.length ≠ 0 := by omega
  refine g [[3],[3,2,0]] ?_;refine WL.so (SO.makeSlice Tryz.underlying27 Tryz.sizeOf62 Tryz.typeInfo62 Tryz.zeroValue62 rfl rfl rfl (by omega) (by show (24 : Int) * _ ≤ _; omega)) rfl ?_;rintro _ _ _ ⟨b9, hb9, rfl, rfl, rfl⟩;refine g [[4],[3,3,2,0]] ?_;refine WL.so (SO.copy (k := 0) (cs := xI [.int .i64 0, .int .i64 0, .int .i64 0] (l.length * 3)) rfl Tryz.underlying27 Tryz.sizeOf62 rfl rfl rfl (ys := l.flatMap ub) (hS.rdS vc (fun e => by subst e; simp at hne)) (Jy l) (by rw [yz, zr vc]; exact Nat.le_refl _)) rfl ?_;rintro _ _ _ ⟨rfl, rfl⟩;rw [xz (xI [.int .i64 0, .int .i64 0, .int .i64 0] (l.length * 3)) (l.flatMap ub) (by rw [yz, zr vc])];refine g [[3],[6,3,2]] ?_;refine WP.ret1 rfl rfl rfl (RV.tmp rfl) (fun w1 hI => ⟨_, D, _, rfl, DExt.refl _ _, hI, rfl, some ⟨b9, l.length, []⟩, rfl, ⟨Nat.le_trans hs0 hb9, Nat.le_refl _, by simp⟩, .inr ⟨_, rfl, rfl, hne⟩, rfl⟩)
theorem zaR (x : Sp) : ∀ v ∈ ul x, v.oneCell' = true := fun v hv => by
  simp only [ul, List.mem_cons, List.not_mem_nil, or_false] at hv;rcases hv with rfl | rfl <;> rfl
theorem Jz (l : List Sp) : ∀ v ∈ l.flatMap ul, v.oneCell' = true := fun v hv => by
  obtain ⟨x, _, h⟩ := List.mem_flatMap.1 hv;exact zaR x v h
theorem Zo (l : List Sp) (a : Option Addr) (n c : Nat) (D : Imm) (hS : SlL D 2 (l.map ul) a n) (hn : n ≤ 1000) (w w0 : World) (hs0 : w0.heap.size ≤ w.heap.size) (hH : Holds D w) : News Tryz.prog 64 [.slice a n c] w D (fun v D' h' => D' = D ∧ ∃ o, v = owV o l.length ∧ owP w0 o l.length 2 ∧ owX o l.length ∧ h' = owH o 39 (l.flatMap ul) []) := by
  unfold News;obtain rfl := hS.len';refine en Tryz.func64 rfl Tryz.ntmps64 (Inv.start hH) (g [[1],[6,0],[6,2,0]] ?_);refine WC.cond rfl (fun c6 => ?_) (fun c6 => ?_)
  · try simp only [zq] at c6
    obtain rfl : l = [] := List.length_eq_zero_iff.1 (by omega);refine g [[1],[6,2,0]] ?_;refine WP.ret1 rfl rfl rfl (RV.tmp rfl) (fun w1 hI => ⟨_, D, [], rfl, DExt.refl _ _, hI, rfl, none, rfl, rfl, .inl ⟨rfl, rfl⟩, rfl⟩)
  try simp only [zq] at c6
  have hne : l.length ≠ 0 := by omega
  refine g [[3],[3,2,0]] ?_;refine WL.so (SO.makeSlice Tryz.underlying28 Tryz.sizeOf39 Tryz.typeInfo39 Tryz.zeroValue39 rfl rfl rfl (by omega) (by show (16 : Int) * _ ≤ _; omega)) rfl ?_;rintro _ _ _ ⟨b9, hb9, rfl, rfl, rfl⟩;refine g [[4],[3,3,2,0]] ?_;refine WL.so (SO.copy (k := 0) (cs := xI [.int .i64 0, .int .i64 0] (l.length * 2)) rfl Tryz.underlying28 Tryz.sizeOf39 rfl rfl rfl (ys := l.flatMap ul) (hS.rdS vh (fun e => by subst e; simp at hne)) (Jz l) (by rw [yz, zr vh]; exact Nat.le_refl _)) rfl ?_;rintro _ _ _ ⟨rfl, rfl⟩;rw [xz (xI [.int .i64 0, .int .i64 0] (l.length * 2)) (l.flatMap ul) (by rw [yz, zr vh])];refine g [[3],[6,3,2]] ?_;refine WP.ret1 rfl rfl rfl (RV.tmp rfl) (fun w1 hI => ⟨_, D, _, rfl, DExt.refl _ _, hI, rfl, some ⟨b9, l.length, []⟩, rfl, ⟨Nat.le_trans hs0 hb9, Nat.le_refl _, by simp⟩, .inr ⟨_, rfl, rfl, hne⟩, rfl⟩)
theorem zaS (x : Tick) : ∀ v ∈ yc x, v.oneCell' = true := fun v hv => by
  simp only [yc, List.mem_cons, List.not_mem_nil, or_false] at hv;rcases hv with rfl | rfl | rfl | rfl | rfl <;> rfl
theorem JA (l : List Tick) : ∀ v ∈ l.flatMap yc, v.oneCell' = true := fun v hv => by
  obtain ⟨x, _, h⟩ := List.mem_flatMap.1 hv;exact zaS x v h
theorem wV (l : List Tick) (a : Option Addr) (n c : Nat) (D : Imm) (hS : SlL D 5 (l.map yc) a n) (hn : n ≤ 1000) (w w0 : World) (hs0 : w0.heap.size ≤ w.heap.size) (hH : Holds D w) : News Tryz.prog 75 [.slice a n c] w D (fun v D' h' => D' = D ∧ ∃ o, v = owV o l.length ∧ owP w0 o l.length 5 ∧ owX o l.length ∧ h' = owH o 41 (l.flatMap yc) []) := by
  unfold News;obtain rfl := hS.len';refine en Tryz.func75 rfl Tryz.ntmps75 (Inv.start hH) (g [[1],[6,0],[6,2,0]] ?_);refine WC.cond rfl (fun c6 => ?_) (fun c6 => ?_)
  · try simp only [zq] at c6
    obtain rfl : l = [] := List.length_eq_zero_iff.1 (by omega);refine g [[1],[6,2,0]] ?_;refine WP.ret1 rfl rfl rfl (RV.tmp rfl) (fun w1 hI => ⟨_, D, [], rfl, DExt.refl _ _, hI, rfl, none, rfl, rfl, .inl ⟨rfl, rfl⟩, rfl⟩)
  try simp only [zq] at c6
  have hne : l.length ≠ 0 := by omega
  refine g [[3],[3,2,0]] ?_;refine WL.so (SO.makeSlice Tryz.underlying22 Tryz.sizeOf41 Tryz.typeInfo41 Tryz.zeroValue41 rfl rfl rfl (by omega) (by show (40 : Int) * _ ≤ _; omega)) rfl ?_;rintro _ _ _ ⟨b9, hb9, rfl, rfl, rfl⟩;refine g [[4],[3,3,2,0]] ?_;refine WL.so (SO.copy (k := 0) (cs := xI [.int .i64 0, .int .i64 0, .int .i64 0, .int .i64 0, .int .i64 0] (l.length * 5)) rfl Tryz.underlying22 Tryz.sizeOf41 rfl rfl rfl (ys := l.flatMap yc) (hS.rdS yn (fun e => by subst e; simp at hne)) (JA l) (by rw [yz, zr yn]; exact Nat.le_refl _)) rfl ?_;rintro _ _ _ ⟨rfl, rfl⟩;rw [xz (xI [.int .i64 0, .int .i64 0, .int .i64 0, .int .i64 0, .int .i64 0] (l.length * 5)) (l.flatMap yc) (by rw [yz, zr yn])];refine g [[3],[6,3,2]] ?_;refine WP.ret1 rfl rfl rfl (RV.tmp rfl) (fun w1 hI => ⟨_, D, _, rfl, DExt.refl _ _, hI, rfl, some ⟨b9, l.length, []⟩, rfl, ⟨Nat.le_trans hs0 hb9, Nat.le_refl _, by simp⟩, .inr ⟨_, rfl, rfl, hne⟩, rfl⟩)
theorem zaP (x : Look) : ∀ v ∈ ym x, v.oneCell' = true := fun v hv => by
  simp only [ym, List.mem_cons, List.not_mem_nil, or_false] at hv;rcases hv with rfl | rfl | rfl | rfl <;> rfl
theorem Jx (l : List Look) : ∀ v ∈ l.flatMap ym, v.oneCell' = true := fun v hv => by
  obtain ⟨x, _, h⟩ := List.mem_flatMap.1 hv;exact zaP x v h
theorem wU (l : List Look) (a : Option Addr) (n c : Nat) (D : Imm) (hS : SlL D 4 (l.map ym) a n) (hn : n ≤ 1000) (w w0 : World) (hs0 : w0.heap.size ≤ w.heap.size) (hH : Holds D w) : News Tryz.prog 76 [.slice a n c] w D (fun v D' h' => D' = D ∧ ∃ o, v = owV o l.length ∧ owP w0 o l.length 4 ∧ owX o l.length ∧ h' = owH o 44 (l.flatMap ym) []) := by
  unfold News;obtain rfl := hS.len';refine en Tryz.func76 rfl Tryz.ntmps76 (Inv.start hH) (g [[1],[6,0],[6,2,0]] ?_);refine WC.cond rfl (fun c6 => ?_) (fun c6 => ?_)
  · try simp only [zq] at c6
    obtain rfl : l = [] := List.length_eq_zero_iff.1 (by omega);refine g [[1],[6,2,0]] ?_;refine WP.ret1 rfl rfl rfl (RV.tmp rfl) (fun w1 hI => ⟨_, D, [], rfl, DExt.refl _ _, hI, rfl, none, rfl, rfl, .inl ⟨rfl, rfl⟩, rfl⟩)
  try simp only [zq] at c6
  have hne : l.length ≠ 0 := by omega
  refine g [[3],[3,2,0]] ?_;refine WL.so (SO.makeSlice Tryz.underlying29 Tryz.sizeOf44 Tryz.typeInfo44 Tryz.zeroValue44 rfl rfl rfl (by omega) (by show (32 : Int) * _ ≤ _; omega)) rfl ?_;rintro _ _ _ ⟨b9, hb9, rfl, rfl, rfl⟩;refine g [[4],[3,3,2,0]] ?_;refine WL.so (SO.copy (k := 0) (cs := xI [.int .i64 0, .int .i64 0, .int .i64 0, .int .i64 0] (l.length * 4)) rfl Tryz.underlying29 Tryz.sizeOf44 rfl rfl rfl (ys := l.flatMap ym) (hS.rdS yw (fun e => by subst e; simp at hne)) (Jx l) (by rw [yz, zr yw]; exact Nat.le_refl _)) rfl ?_;rintro _ _ _ ⟨rfl, rfl⟩;rw [xz (xI [.int .i64 0, .int .i64 0, .int .i64 0, .int .i64 0] (l.length * 4)) (l.flatMap ym) (by rw [yz, zr yw])];refine g [[3],[6,3,2]] ?_;refine WP.ret1 rfl rfl rfl (RV.tmp rfl) (fun w1 hI => ⟨_, D, _, rfl, DExt.refl _ _, hI, rfl, some ⟨b9, l.length, []⟩, rfl, ⟨Nat.le_trans hs0 hb9, Nat.le_refl _, by simp⟩, .inr ⟨_, rfl, rfl, hne⟩, rfl⟩)
theorem zcL (x : Ent) : ∀ v ∈ entC x, v.oneCell' = true := fun v hv => by
  simp only [entC, List.mem_cons, List.not_mem_nil, or_false] at hv;rcases hv with rfl | rfl | rfl <;> rfl
theorem zaT (l : List Ent) : ∀ v ∈ l.flatMap entC, v.oneCell' = true := fun v hv => by
  obtain ⟨x, _, h⟩ := List.mem_flatMap.1 hv;exact zcL x v h
theorem vN (l : List Ent) (a : Option Addr) (n c : Nat) (D : Imm) (hS : SlL D 3 (l.map entC) a n) (hn : n ≤ 1000) (w w0 : World) (hs0 : w0.heap.size ≤ w.heap.size) (hH : Holds D w) : News Tryz.prog 77 [.slice a n c] w D (fun v D' h' => D' = D ∧ ∃ o, v = owV o l.length ∧ owP w0 o l.length 3 ∧ owX o l.length ∧ h' = owH o 46 (l.flatMap entC) []) := by
  unfold News;obtain rfl := hS.len';refine en Tryz.func77 rfl Tryz.ntmps77 (Inv.start hH) (g [[1],[6,0],[6,2,0]] ?_);refine WC.cond rfl (fun c6 => ?_) (fun c6 => ?_)
  · try simp only [zq] at c6
    obtain rfl : l = [] := List.length_eq_zero_iff.1 (by omega);refine g [[1],[6,2,0]] ?_;refine WP.ret1 rfl rfl rfl (RV.tmp rfl) (fun w1 hI => ⟨_, D, [], rfl, DExt.refl _ _, hI, rfl, none, rfl, rfl, .inl ⟨rfl, rfl⟩, rfl⟩)
  try simp only [zq] at c6
  have hne : l.length ≠ 0 := by omega
  refine g [[3],[3,2,0]] ?_;refine WL.so (SO.makeSlice Tryz.underlying32 Tryz.sizeOf46 Tryz.typeInfo46 Tryz.zeroValue46 rfl rfl rfl (by omega) (by show (24 : Int) * _ ≤ _; omega)) rfl ?_;rintro _ _ _ ⟨b9, hb9, rfl, rfl, rfl⟩;refine g [[4],[3,3,2,0]] ?_;refine WL.so (SO.copy (k := 0) (cs := xI [.int .i64 0, .int .i64 0, .int .i64 0] (l.length * 3)) rfl Tryz.underlying32 Tryz.sizeOf46 rfl rfl rfl (ys := l.flatMap entC) (hS.rdS xm (fun e => by subst e; simp at hne)) (zaT l) (by rw [yz, zr xm]; exact Nat.le_refl _)) rfl ?_;rintro _ _ _ ⟨rfl, rfl⟩;rw [xz (xI [.int .i64 0, .int .i64 0, .int .i64 0] (l.length * 3)) (l.flatMap entC) (by rw [yz, zr xm])];refine g [[3],[6,3,2]] ?_;refine WP.ret1 rfl rfl rfl (RV.tmp rfl) (fun w1 hI => ⟨_, D, _, rfl, DExt.refl _ _, hI, rfl, some ⟨b9, l.length, []⟩, rfl, ⟨Nat.le_trans hs0 hb9, Nat.le_refl _, by simp⟩, .inr ⟨_, rfl, rfl, hne⟩, rfl⟩)
theorem Yz (l : List Tick) (x : Tick) (a : Option Addr) (n c : Nat) (D : Imm) (hS : SlL D 5 (l.map yc) a n) (hn : n ≤ 1000) (w : World) (hH : Holds D w) : y6 Tryz.prog 222 [.slice a n c, .agg (List.toArray (yc x))] w D (fun v D' => ∃ a c, v = .slice a (l ++ [x]).length c ∧ SlL D' 5 ((l ++ [x]).map yc) a (l ++ [x]).length ∧ (l ++ [x]).length ≤ c) := by
  unfold y6;obtain rfl := hS.len';refine en Tryz.func222 rfl Tryz.ntmps222 (Inv.start hH) (g [[1],[1,0,1]] ?_);refine WL.so (SO.box rfl rfl) rfl (zw fun b3 hb3 => ?_);refine g [[4],[0,4,3,0]] ?_;refine WC.drawH [_] zk zHl (g [[1000],[1002]] ?_);refine WH.two (i := 1) (j := 3) zk ?_ ?_
  · refine WHo.so rfl (SO.news (Enters.func CaF.h rfl) (fun w1 hI => wV l a _ c D hS (by omega) w1 w hI.keep.size hI.imm)) rfl ?_;rintro _ _ _ ⟨hp6, hX6, ⟨rfl, o, rfl, ho, _, rfl⟩, rfl⟩;refine ⟨(fun _ hI => Inv.left (l1 := [_]) hI), ?_⟩;refine WH.one (i := 3) zk (WHo.so rfl (SO.buildRows UnF.h SzF.h ZvF.h rfl rfl rfl (rows := [yc x]) rfl (by intro r hr; obtain rfl := List.mem_singleton.1 hr; rfl) rfl) rfl ?_);rintro _ _ _ ⟨b8, hb8, rfl, rfl, rfl⟩;refine ⟨(fun _ hI => Inv.left (l1 := [_]) hI.tail), ?_⟩;refine WH.one (i := 4) zk (WHo.so rfl (SO.appendOwW (W := w) (Nat.le_refl _) (o := o) (len := l.length) (n := 1) (xs := (l.flatMap yc)) (size := 5) [_] [_] [] rfl rfl Tryz.underlying22 Tryz.sizeOf41 Tryz.typeInfo41 Tryz.zeroValue41 rfl rfl rfl rfl ⟨rfl, .inr ⟨_, _, _, rfl, RdN.own (k := 0) (n := 5) rfl rfl⟩⟩ (za rfl) ho (zr yn l) (by omega) (by show (2 * (_ + _) + 1000) * 40 ≤ 2 ^ 48; omega) (by omega)) rfl ?_);rintro _ _ _ ⟨u1, hu1, rfl, rfl, rfl⟩;refine ⟨(fun _ hI => Inv.left (l1 := [_]) hI), ?_⟩;refine WH.know 9 (.slice (owAt (some u1)) (l ++ [x]).length (owCp (some u1) (l ++ [x]).length)) rfl (by rw [List.length_append]; rfl) ?_;refine WH.freezeOw (f := yc) (m := 5) yn [_] [] (some u1) 41 (l ++ [x]) rfl (by rw [List.length_append]; exact hu1) (by rw [List.flatMap_append]; rfl) (fun D2 hX2 hS2 => ?_);refine g [[1005]] ?_;refine WH.nil zk (g [[2]] ?_);refine WP.ret1 rfl rfl rfl (RV.tmp rfl) (fun w1 hI => ⟨_, D2, rfl, hI.keep, hI.imm, hX2, _, _, rfl, hS2, by rw [List.length_append]; exact hu1.2.1⟩)
  refine WHo.so rfl (SO.buildRows UnF.h SzF.h ZvF.h rfl rfl rfl (rows := [yc x]) rfl (by intro r hr; obtain rfl := List.mem_singleton.1 hr; rfl) rfl) rfl ?_;rintro _ _ _ ⟨b8, hb8, rfl, rfl, rfl⟩;refine ⟨(fun _ hI => hI.tail), ?_⟩;refine WH.one (i := 1) zk (WHo.so rfl (SO.news (Enters.func CaF.h rfl) (fun w1 hI => wV l a _ c D hS (by omega) w1 w hI.keep.size hI.imm)) rfl ?_);rintro _ _ _ ⟨hp6, hX6, ⟨rfl, o, rfl, ho, _, rfl⟩, rfl⟩;refine ⟨(fun _ hI => Inv.left (l1 := [_]) hI.tail), ?_⟩;refine WH.one (i := 4) zk (WHo.so rfl (SO.appendOwW (W := w) (Nat.le_refl _) (o := o) (len := l.length) (n := 1) (xs := (l.flatMap yc)) (size := 5) [_] [_] [] rfl rfl Tryz.underlying22 Tryz.sizeOf41 Tryz.typeInfo41 Tryz.zeroValue41 rfl rfl rfl rfl ⟨rfl, .inr ⟨_, _, _, rfl, RdN.own (k := 0) (n := 5) rfl rfl⟩⟩ (za rfl) ho (zr yn l) (by omega) (by show (2 * (_ + _) + 1000) * 40 ≤ 2 ^ 48; omega) (by omega)) rfl ?_);rintro _ _ _ ⟨u1, hu1, rfl, rfl, rfl⟩;refine ⟨(fun _ hI => Inv.left (l1 := [_]) hI), ?_⟩;refine WH.know 9 (.slice (owAt (some u1)) (l ++ [x]).length (owCp (some u1) (l ++ [x]).length)) rfl (by rw [List.length_append]; rfl) ?_;refine WH.freezeOw (f := yc) (m := 5) yn [_] [] (some u1) 41 (l ++ [x]) rfl (by rw [List.length_append]; exact hu1) (by rw [List.flatMap_append]; rfl) (fun D2 hX2 hS2 => ?_);refine g [[1005]] ?_;refine WH.nil zk (g [[2]] ?_);refine WP.ret1 rfl rfl rfl (RV.tmp rfl) (fun w1 hI => ⟨_, D2, rfl, hI.keep, hI.imm, hX2, _, _, rfl, hS2, by rw [List.length_append]; exact hu1.2.1⟩)
theorem Yy (l : List Look) (x : Look) (a : Option Addr) (n c : Nat) (D : Imm) (hS : SlL D 4 (l.map ym) a n) (hn : n ≤ 1000) (w : World) (hH : Holds D w) : y6 Tryz.prog 224 [.slice a n c, .agg (List.toArray (ym x))] w D (fun v D' => ∃ a c, v = .slice a (l ++ [x]).length c ∧ SlL D' 4 ((l ++ [x]).map ym) a (l ++ [x]).length ∧ (l ++ [x]).length ≤ c) := by
  unfold y6;obtain rfl := hS.len';refine en Tryz.func224 rfl Tryz.ntmps224 (Inv.start hH) (g [[1],[1,0,1]] ?_);refine WL.so (SO.box rfl rfl) rfl (zw fun b3 hb3 => ?_);refine g [[4],[0,4,3,0]] ?_;refine WC.drawH [_] zk zHl (g [[1000],[1002]] ?_);refine WH.two (i := 1) (j := 3) zk ?_ ?_
  · refine WHo.so rfl (SO.news (Enters.func CaF.h rfl) (fun w1 hI => wU l a _ c D hS (by omega) w1 w hI.keep.size hI.imm)) rfl ?_;rintro _ _ _ ⟨hp6, hX6, ⟨rfl, o, rfl, ho, _, rfl⟩, rfl⟩;refine ⟨(fun _ hI => Inv.left (l1 := [_]) hI), ?_⟩;refine WH.one (i := 3) zk (WHo.so rfl (SO.buildRows UnF.h SzF.h ZvF.h rfl rfl rfl (rows := [ym x]) rfl (by intro r hr; obtain rfl := List.mem_singleton.1 hr; rfl) rfl) rfl ?_);rintro _ _ _ ⟨b8, hb8, rfl, rfl, rfl⟩;refine ⟨(fun _ hI => Inv.left (l1 := [_]) hI.tail), ?_⟩;refine WH.one (i := 4) zk (WHo.so rfl (SO.appendOwW (W := w) (Nat.le_refl _) (o := o) (len := l.length) (n := 1) (xs := (l.flatMap ym)) (size := 4) [_] [_] [] rfl rfl Tryz.underlying29 Tryz.sizeOf44 Tryz.typeInfo44 Tryz.zeroValue44 rfl rfl rfl rfl ⟨rfl, .inr ⟨_, _, _, rfl, RdN.own (k := 0) (n := 4) rfl rfl⟩⟩ (za rfl) ho (zr yw l) (by omega) (by show (2 * (_ + _) + 1000) * 32 ≤ 2 ^ 48; omega) (by omega)) rfl ?_);rintro _ _ _ ⟨u1, hu1, rfl, rfl, rfl⟩;refine ⟨(fun _ hI => Inv.left (l1 := [_]) hI), ?_⟩;refine WH.know 9 (.slice (owAt (some u1)) (l ++ [x]).length (owCp (some u1) (l ++ [x]).length)) rfl (by rw [List.length_append]; rfl) ?_;refine WH.freezeOw (f := ym) (m := 4) yw [_] [] (some u1) 44 (l ++ [x]) rfl (by rw [List.length_append]; exact hu1) (by rw [List.flatMap_append]; rfl) (fun D2 hX2 hS2 => ?_);refine g [[1005]] ?_;refine WH.nil zk (g [[2]] ?_);refine WP.ret1 rfl rfl rfl (RV.tmp rfl) (fun w1 hI => ⟨_, D2, rfl, hI.keep, hI.imm, hX2, _, _, rfl, hS2, by rw [List.length_append]; exact hu1.2.1⟩)
  refine WHo.so rfl (SO.buildRows UnF.h SzF.h ZvF.h rfl rfl rfl (rows := [ym x]) rfl (by intro r hr; obtain rfl := List.mem_singleton.1 hr; rfl) rfl) rfl ?_;rintro _ _ _ ⟨b8, hb8, rfl, rfl, rfl⟩;refine ⟨(fun _ hI => hI.tail), ?_⟩;refine WH.one (i := 1) zk (WHo.so rfl (SO.news (Enters.func CaF.h rfl) (fun w1 hI => wU l a _ c D hS (by omega) w1 w hI.keep.size hI.imm)) rfl ?_);rintro _ _ _ ⟨hp6, hX6, ⟨rfl, o, rfl, ho, _, rfl⟩, rfl⟩;refine ⟨(fun _ hI => Inv.left (l1 := [_]) hI.tail), ?_⟩;refine WH.one (i := 4) zk (WHo.so rfl (SO.appendOwW (W := w) (Nat.le_refl _) (o := o) (len := l.length) (n := 1) (xs := (l.flatMap ym)) (size := 4) [_] [_] [] rfl rfl Tryz.underlying29 Tryz.sizeOf44 Tryz.typeInfo44 Tryz.zeroValue44 rfl rfl rfl rfl ⟨rfl, .inr ⟨_, _, _, rfl, RdN.own (k := 0) (n := 4) rfl rfl⟩⟩ (za rfl) ho (zr yw l) (by omega) (by show (2 * (_ + _) + 1000) * 32 ≤ 2 ^ 48; omega) (by omega)) rfl ?_);rintro _ _ _ ⟨u1, hu1, rfl, rfl, rfl⟩;refine ⟨(fun _ hI => Inv.left (l1 := [_]) hI), ?_⟩;refine WH.know 9 (.slice (owAt (some u1)) (l ++ [x]).length (owCp (some u1) (l ++ [x]).length)) rfl (by rw [List.length_append]; rfl) ?_;refine WH.freezeOw (f := ym) (m := 4) yw [_] [] (some u1) 44 (l ++ [x]) rfl (by rw [List.length_append]; exact hu1) (by rw [List.flatMap_append]; rfl) (fun D2 hX2 hS2 => ?_);refine g [[1005]] ?_;refine WH.nil zk (g [[2]] ?_);refine WP.ret1 rfl rfl rfl (RV.tmp rfl) (fun w1 hI => ⟨_, D2, rfl, hI.keep, hI.imm, hX2, _, _, rfl, hS2, by rw [List.length_append]; exact hu1.2.1⟩)
theorem vA (l : List Ent) (x : Ent) (a : Option Addr) (n c : Nat) (D : Imm) (hS : SlL D 3 (l.map entC) a n) (hn : n ≤ 1000) (w : World) (hH : Holds D w) : y6 Tryz.prog 227 [.slice a n c, .agg (List.toArray (entC x))] w D (fun v D' => ∃ a c, v = .slice a (l ++ [x]).length c ∧ SlL D' 3 ((l ++ [x]).map entC) a (l ++ [x]).length ∧ (l ++ [x]).length ≤ c) := by
  unfold y6;obtain rfl := hS.len';refine en Tryz.func227 rfl Tryz.ntmps227 (Inv.start hH) (g [[1],[1,0,1]] ?_);refine WL.so (SO.box rfl rfl) rfl (zw fun b3 hb3 => ?_);refine g [[4],[0,4,3,0]] ?_;refine WC.drawH [_] zk zHl (g [[1000],[1002]] ?_);refine WH.two (i := 1) (j := 3) zk ?_ ?_
  · refine WHo.so rfl (SO.news (Enters.func CaF.h rfl) (fun w1 hI => vN l a _ c D hS (by omega) w1 w hI.keep.size hI.imm)) rfl ?_;rintro _ _ _ ⟨hp6, hX6, ⟨rfl, o, rfl, ho, _, rfl⟩, rfl⟩;refine ⟨(fun _ hI => Inv.left (l1 := [_]) hI), ?_⟩;refine WH.one (i := 3) zk (WHo.so rfl (SO.buildRows UnF.h SzF.h ZvF.h rfl rfl rfl (rows := [entC x]) rfl (by intro r hr; obtain rfl := List.mem_singleton.1 hr; rfl) rfl) rfl ?_);rintro _ _ _ ⟨b8, hb8, rfl, rfl, rfl⟩;refine ⟨(fun _ hI => Inv.left (l1 := [_]) hI.tail), ?_⟩;refine WH.one (i := 4) zk (WHo.so rfl (SO.appendOwW (W := w) (Nat.le_refl _) (o := o) (len := l.length) (n := 1) (xs := (l.flatMap entC)) (size := 3) [_] [_] [] rfl rfl Tryz.underlying32 Tryz.sizeOf46 Tryz.typeInfo46 Tryz.zeroValue46 rfl rfl rfl rfl ⟨rfl, .inr ⟨_, _, _, rfl, RdN.own (k := 0) (n := 3) rfl rfl⟩⟩ (za rfl) ho (zr xm l) (by omega) (by show (2 * (_ + _) + 1000) * 24 ≤ 2 ^ 48; omega) (by omega)) rfl ?_);rintro _ _ _ ⟨u1, hu1, rfl, rfl, rfl⟩;refine ⟨(fun _ hI => Inv.left (l1 := [_]) hI), ?_⟩;refine WH.know 9 (.slice (owAt (some u1)) (l ++ [x]).length (owCp (some u1) (l ++ [x]).length)) rfl (by rw [List.length_append]; rfl) ?_;refine WH.freezeOw (f := entC) (m := 3) xm [_] [] (some u1) 46 (l ++ [x]) rfl (by rw [List.length_append]; exact hu1) (by rw [List.flatMap_append]; rfl) (fun D2 hX2 hS2 => ?_);refine g [[1005]] ?_;refine WH.nil zk (g [[2]] ?_);refine WP.ret1 rfl rfl rfl (RV.tmp rfl) (fun w1 hI => ⟨_, D2, rfl, hI.keep, hI.imm, hX2, _, _, rfl, hS2, by rw [List.length_append]; exact hu1.2.1⟩)
  refine WHo.so rfl (SO.buildRows UnF.h SzF.h ZvF.h rfl rfl rfl (rows := [entC x]) rfl (by intro r hr; obtain rfl := List.mem_singleton.1 hr; rfl) rfl) rfl ?_;rintro _ _ _ ⟨b8, hb8, rfl, rfl, rfl⟩;refine ⟨(fun _ hI => hI.tail), ?_⟩;refine WH.one (i := 1) zk (WHo.so rfl (SO.news (Enters.func CaF.h rfl) (fun w1 hI => vN l a _ c D hS (by omega) w1 w hI.keep.size hI.imm)) rfl ?_);rintro _ _ _ ⟨hp6, hX6, ⟨rfl, o, rfl, ho, _, rfl⟩, rfl⟩;refine ⟨(fun _ hI => Inv.left (l1 := [_]) hI.tail), ?_⟩;refine WH.one (i := 4) zk (WHo.so rfl (SO.appendOwW (W := w) (Nat.le_refl _) (o := o) (len := l.length) (n := 1) (xs := (l.flatMap entC)) (size := 3) [_] [_] [] rfl rfl Tryz.underlying32 Tryz.sizeOf46 Tryz.typeInfo46 Tryz.zeroValue46 rfl rfl rfl rfl ⟨rfl, .inr ⟨_, _, _, rfl, RdN.own (k := 0) (n := 3) rfl rfl⟩⟩ (za rfl) ho (zr xm l) (by omega) (by show (2 * (_ + _) + 1000) * 24 ≤ 2 ^ 48; omega) (by omega)) rfl ?_);rintro _ _ _ ⟨u1, hu1, rfl, rfl, rfl⟩;refine ⟨(fun _ hI => Inv.left (l1 := [_]) hI), ?_⟩;refine WH.know 9 (.slice (owAt (some u1)) (l ++ [x]).length (owCp (some u1) (l ++ [x]).length)) rfl (by rw [List.length_append]; rfl) ?_;refine WH.freezeOw (f := entC) (m := 3) xm [_] [] (some u1) 46 (l ++ [x]) rfl (by rw [List.length_append]; exact hu1) (by rw [List.flatMap_append]; rfl) (fun D2 hX2 hS2 => ?_);refine g [[1005]] ?_;refine WH.nil zk (g [[2]] ?_);refine WP.ret1 rfl rfl rfl (RV.tmp rfl) (fun w1 hI => ⟨_, D2, rfl, hI.keep, hI.imm, hX2, _, _, rfl, hS2, by rw [List.length_append]; exact hu1.2.1⟩)
theorem SA24 : zj Tryz.prog 24 [.int .i64 0, .slice none 0 0] [(0, 1), (1, 1)] := ⟨⟨_, Tryz.zeroValue24, rfl⟩, _, Tryz.underlying24, fun w => by simp [Tryz.sizeOf3, Tryz.sizeOf22]⟩
abbrev zdt := SaF.mk SA24
attribute [instance] zdt
theorem SA26 : zj Tryz.prog 26 [.int .i64 0, .slice none 0 0, .int .i64 0, .int .i64 0, .int .i64 0] [(0, 2), (2, 1), (3, 1), (4, 1)] := ⟨⟨_, Tryz.zeroValue26, rfl⟩, _, Tryz.underlying26, fun w => by simp [Tryz.sizeOf3, Tryz.sizeOf24]⟩
abbrev zdu := SaF.mk SA26
attribute [instance] zdu
theorem SA31 : zj Tryz.prog 31 [.slice none 0 0, .slice none 0 0, .slice none 0 0] [(0, 1), (1, 1), (2, 1)] := ⟨⟨_, Tryz.zeroValue31, rfl⟩, _, Tryz.underlying31, fun w => by simp [Tryz.sizeOf27, Tryz.sizeOf28, Tryz.sizeOf29]⟩
abbrev zdv := SaF.mk SA31
attribute [instance] zdv
section
variable (x : Wick) (m s t l b : Sl) (xb : Nat) (w : World) (hx : w.heap[xb]? = some (womO x m s t l b))
include x m s t l b xb w hx
theorem jo : z8 Tryz.prog 68 [pt xb] w (.agg #[m.v, s.v, l.v]) := by
  unfold z8;refine en Tryz.func68 rfl Tryz.ntmps68 (Inv.start (Holds.one hx)) (g [[1],[1,0]] ?_);refine WL.so (SO.alloc ZvF.h rfl) rfl (zw fun b2 hb2 => ?_);refine g [[3],[0,2,0],[3015],[4]] ?_;refine WQ.q rfl (Yd.qt (Yd.l1 rfl (Rd.imm (Imm.one_self _ _) rfl))) rfl (g [[4]] ?_);refine WQ.q rfl (Yd.qt (Yd.l1 rfl (Rd.imm (Imm.one_self _ _) rfl))) rfl (g [[4]] ?_);refine WQ.q rfl (Yd.qt (Yd.l1 rfl (Rd.imm (Imm.one_self _ _) rfl))) rfl (g [[6]] ?_);refine WP.ret1 rfl rfl rfl (RV.cellN AgF.h SzF.h rfl (vs := [_, _, _]) rfl (RdN.own (k := 0) (n := 3) rfl rfl)) (fun w hI => ⟨rfl, hI.keep⟩)
theorem Ya : z8 Tryz.prog 148 [pt xb] w (.agg #[it x.huts, t.v]) := by
  unfold z8;refine en Tryz.func148 rfl Tryz.ntmps148 (Inv.start (Holds.one hx)) (g [[1],[1,0]] ?_);refine WL.so (SO.alloc ZvF.h rfl) rfl (zw fun b2 hb2 => ?_);refine g [[3],[0,2,0],[3010],[4]] ?_;refine WQ.q rfl (Yd.qt (Yd.l1 rfl (Rd.imm (Imm.one_self _ _) rfl))) rfl (g [[4]] ?_);refine WQ.q rfl (Yd.qt (Yd.l1 rfl (Rd.imm (Imm.one_self _ _) rfl))) rfl (g [[6]] ?_);refine WP.ret1 rfl rfl rfl (RV.cellN AgF.h SzF.h rfl (vs := [_, _]) rfl (RdN.own (k := 0) (n := 2) rfl rfl)) (fun w hI => ⟨rfl, hI.keep⟩)
theorem X3 : z8 Tryz.prog 66 [pt xb] w (.agg #[it x.huts, t.v, it x.price, it x.fine, it x.wait]) := by
  unfold z8;refine en Tryz.func66 rfl Tryz.ntmps66 (Inv.start (Holds.one hx)) (g [[1],[1,0]] ?_);refine WL.so (SO.alloc ZvF.h rfl) rfl (zw fun b2 hb2 => ?_);refine g [[3],[0,2,0],[3017],[1]] ?_;refine WQ.q rfl (Qt.callP CaF.h rfl (fun w hI => Ya x m s t l b xb _ (hI.imm _ _ (Imm.one_self _ _)))) rfl (g [[4]] ?_);refine WQ.q rfl (Yd.qt (Yd.l1 rfl (Rd.imm (Imm.one_self _ _) rfl))) rfl (g [[4]] ?_);refine WQ.q rfl (Yd.qt (Yd.l1 rfl (Rd.imm (Imm.one_self _ _) rfl))) rfl (g [[4]] ?_);refine WQ.q rfl (Yd.qt (Yd.l1 rfl (Rd.imm (Imm.one_self _ _) rfl))) rfl (g [[6]] ?_);refine WP.ret1 rfl rfl rfl (RV.cellN AgF.h SzF.h rfl (vs := [_, _, _, _, _]) rfl (RdN.own (k := 0) (n := 5) rfl rfl)) (fun w hI => ⟨rfl, hI.keep⟩)
end
theorem Qr (T : Tide) (a1 a2 a3 : Option Addr) (n1 n2 n3 c1 c2 c3 : Nat) (D : Imm) (w : World) (hR : yo D T a1 n1 a2 n2 a3 n3) (hH : Holds D w) (hL : LibW D) : y6 Tryz.prog 149 [.agg #[.slice a1 n1 c1, .slice a2 n2 c2, .slice a3 n3 c3]] w D (fun v _ => ∃ n, v = .tuple #[it n, it (if zQ T then 0 else 1)]) := by
  cases hv : zQ T with
  | false => exact KF T a1 a2 a3 n1 n2 n3 c1 c2 c3 D w hR hH hL hv
  | true => exact KG T a1 a2 a3 n1 n2 n3 c1 c2 c3 D w hR hH hL hv
theorem Y9 (xv : Value) (T : Tide) (a1 a2 a3 : Option Addr) (n1 n2 n3 c1 c2 c3 : Nat) (D : Imm) (w : World) (hR : yo D T a1 n1 a2 n2 a3 n3) (hH : Holds D w) (hL : LibW D) : z8 Tryz.prog 67 [xv, .agg #[.slice a1 n1 c1, .slice a2 n2 c2, .slice a3 n3 c3]] w (.bool (zQ T)) := by
  unfold z8;obtain rfl := hR.mark.len';obtain rfl := hR.sand.len';obtain rfl := hR.look.len';obtain ⟨hl1, hl2, hl3⟩ := hR.len;refine en Tryz.func67 rfl Tryz.ntmps67 (Inv.start hH) (g [[1],[1,1]] ?_);refine WL.so (SO.box rfl rfl) rfl (zw fun b3 hb3 => ?_);refine g [[4],[2,4,3]] ?_;refine WL.so (SO.makes (Enters.func Tryz.call149 rfl) (fun w hI => Qr T a1 a2 a3 _ _ _ c1 c2 c3 D w hR hI.imm hL)) rfl ?_;rintro _ D2 _ ⟨hX2, ⟨n, rfl⟩, rfl⟩;refine g [[8],[7,6,4]] ?_;refine WP.ret1 rfl rfl rfl (RV.tmp rfl) (fun w hI => ⟨zb (by cases zQ T <;> rfl), hI.keep⟩)
theorem SA99 : zj Tryz.prog 99 [.int .i64 0, .int .i64 0, .int .i64 0, .int .i64 0, .slice none 0 0, .slice none 0 0, .slice none 0 0, .slice none 0 0, .slice none 0 0, .bool false] [(0, 6), (6, 3), (9, 1)] := ⟨⟨_, Tryz.zeroValue99, rfl⟩, _, Tryz.underlying99, fun w => by simp [Tryz.sizeOf4, Tryz.sizeOf49, Tryz.sizeOf57]⟩
abbrev zdE := SaF.mk SA99
attribute [instance] zdE
def yL (x : Wick) (m s : Sl) : Value := .agg #[it x.huts, it x.price, it x.fine, it x.wait, m.v, s.v]
theorem Z1 (x : Wick) : (yg (zD x day0)).2 = if yx (zD x day0) = true then 0 else 1 := by
  unfold yg;cases yx (zD x day0) <;> rfl
theorem vr (x : Wick) : zS x = (yx (zD x day0) && zQ (zE x day0)) := rfl
theorem W7 (D : Imm) (x : Wick) : TksR D (tksW x day0) none 0 := ⟨SlL.nil _ _, Nat.zero_le _⟩
section
variable (x : Wick) (m s : Sl) (D : Imm) (w : World) (hW : yG D x m s) (hH : Holds D w) (hL : LibW D)
include x m s D w hW hH hL
theorem zlI : News Tryz.prog 19 [yL x m s] w D (fun v D' h' => (zS x = true ∧ ∃ xb m' s', v = .tuple #[pt xb, it 0] ∧ h' = [(xb, womO x m' s' nilS nilS nilS)] ∧ yG D' x m' s' ∧ frD D m'.a ∧ frD D s'.a) ∨ (zS x = false ∧ v = .tuple #[.pointer none, it 1])) := by
  unfold News;have hlm : x.marks.length ≤ 1000 := by rw [← hW.mark.len']; exact hW.len.1
  have hls : x.sand.length ≤ 1000 := by rw [← hW.sand.len']; exact hW.len.2
  refine en Tryz.func19 rfl Tryz.ntmps19 (Inv.start hH) (g [[1],[1,0]] ?_);refine WL.so (SO.box rfl rfl) rfl (zw fun b1 hb1 => ?_);refine g [[5],[2,3,2,1]] ?_;refine WL.so (SO.alloc ZvF.h rfl) rfl (zw fun b4 hb4 => ?_);refine g [[4],[0,4,3,2,1]] ?_;refine WC.drawO [_] (pz [1,3,7,9,4,13,10,14,17,18]) zk zk zX (fun _ hI => hI.tail) (g [[4]] ?_);refine WA.so rfl (SO.makes (Enters.func Tryz.call63 rfl) (fun w2 hI => q6 hI.imm vc (Zn x.marks m.a m.n m.c _ hW.mark hW.len.1 w2 w2 (Nat.le_refl _) hI.imm))) rfl ?_;rintro _ D2 _ ⟨hX2, ⟨a2, c2, rfl, hS2, hc2, hf2⟩, rfl⟩;have hs3 := hW.sand.ext hX2;refine ⟨fun _ hI => hI.tail.shrink hX2.old, ?_⟩;refine g [[1]] ?_;refine WA.so rfl (SO.makes (Enters.func Tryz.call64 rfl) (fun w2 hI => q6 hI.imm vh (Zo x.sand s.a s.n s.c _ hs3 hW.len.2 w2 w2 (Nat.le_refl _) hI.imm))) rfl ?_;rintro _ D3 _ ⟨hX3, ⟨a3, c3, rfl, hS3, hc3, hf3⟩, rfl⟩;replace hL := (hL.ext hX2).ext hX3;replace hS2 := hS2.ext hX3;have hwr : yG D3 x ⟨a2, x.marks.length, c2⟩ ⟨a3, x.sand.length, c3⟩ := ⟨hS2, hS3, hlm, hls⟩;refine ⟨fun _ hI => (hI.tail.shrink hX3.old).shrink hX2.old, ?_⟩;refine WA.so rfl (SO.store 0 rfl SzF.h rfl rfl rfl rfl (zqb rfl) (za rfl)) rfl ?_;rintro _ _ _ ⟨rfl, rfl, rfl⟩;refine ⟨fun _ hI => (hI.tail.shrink hX3.old).shrink hX2.old, ?_⟩;refine g [[1]] ?_;refine WA.so rfl (SO.store 0 rfl SzF.h rfl rfl rfl rfl (zqb rfl) (za rfl)) rfl ?_;rintro _ _ _ ⟨rfl, rfl, rfl⟩;refine ⟨fun _ hI => (hI.tail.shrink hX3.old).shrink hX2.old, ?_⟩;refine g [[3],[2,4,3,2]] ?_;refine WL.yd (Yd.buildL SA99 [(0, .agg (List.toArray [it x.huts, it x.price, it x.fine, it x.wait, .slice a2 x.marks.length c2, .slice a3 x.sand.length c3]), [it x.huts, it x.price, it x.fine, it x.wait, .slice a2 x.marks.length c2, .slice a3 x.sand.length c3]), (2, .bool true, [.bool true])] (womC x ⟨a2, x.marks.length, c2⟩ ⟨a3, x.sand.length, c3⟩ nilS nilS nilS) rfl ⟨rfl, ⟨0, rfl, Nat.le_of_ble_eq_true rfl⟩, rfl, ⟨9, rfl, Nat.le_of_ble_eq_true rfl⟩, trivial⟩ rfl) rfl ?_;refine WL.so (SO.box rfl rfl) rfl (zw fun b19 hb19 => ?_);refine g [[4],[2,5,3,2]] ?_;refine WL.cl rfl (fun w hI => X3 x ⟨a2, x.marks.length, c2⟩ ⟨a3, x.sand.length, c3⟩ nilS nilS nilS b19 _ (hI.own _ _ (List.mem_of_getElem? (i := 0) rfl))) (WL.cl rfl (fun w hI => Vm (zD x day0) none 0 0 _ _ (W7 _ x) hI.imm) (g [[9],[4,7,5,3,2]] ?_));refine WL.part 28 rfl (fun g28 => ?_) (fun g28 => ?_)
  · try simp only [zq] at g28
    refine g [[10],[7,5,3,2]] ?_;refine WP.ret2 rfl rfl rfl (RV.tmp rfl) (RV.tmp rfl) (fun w1 hI => ⟨_, D3, [], rfl, hX2.trans hX3 (Nat.le_refl _), hI.nil, .inr ⟨by rw [vr]; have := Z1 x; simp_all, rfl⟩⟩)
  try simp only [zq] at g28
  refine g [[2]] ?_;refine WL.sog rfl (SO.callP CaF.h rfl (fun w hI => jo x ⟨a2, x.marks.length, c2⟩ ⟨a3, x.sand.length, c3⟩ nilS nilS nilS b19 _ (hI.own _ _ (List.mem_of_getElem? (i := 0) rfl)))) rfl (zs ?_);refine WL.sog rfl (SO.callP CaF.h rfl (fun w hI => Y9 _ (zE x day0) a2 a3 none _ _ 0 c2 c3 0 _ _ (wK hwr (DayR.nil _)) hI.imm hL)) rfl (zs (g [[4]] ?_));refine WC.cond rfl (fun c34 => ?_) (fun c34 => ?_)
  · try simp only [zq] at c34
    refine g [[1],[7,5,3,2]] ?_;refine WP.ret2 rfl rfl rfl (RV.tmp rfl) (RV.tmp rfl) (fun w1 hI => ⟨_, D3, [], rfl, hX2.trans hX3 (Nat.le_refl _), hI.nil, .inr ⟨by rw [vr]; have := Z1 x; simp_all, rfl⟩⟩)
  try simp only [zq] at c34
  refine g [[3],[7,5,3,2]] ?_;refine WP.ret2 rfl rfl rfl (RV.tmp rfl) (RV.tmp rfl) (fun w1 hI => ⟨_, D3, [_], rfl, hX2.trans hX3 (Nat.le_refl _), Inv.left (l1 := [_]) hI, .inl ⟨by rw [vr]; have := Z1 x; simp_all, b19, ⟨a2, x.marks.length, c2⟩, ⟨a3, x.sand.length, c3⟩, rfl, rfl, hwr, hf2, hf3.of hX2⟩⟩)
theorem Qs : News Tryz.prog 19 [yL x m s] w D (fun v D' h' => (zS x = true ∧ ∃ xb m' s', v = .tuple #[pt xb, it 0] ∧ h' = [(xb, womO x m' s' nilS nilS nilS)] ∧ yG D' x m' s') ∨ (zS x = false ∧ v = .tuple #[.pointer none, it 1])) :=
  (zlI x m s D w hW hH hL).mono fun e w' ⟨v, D', h', he, hX, hI, hK⟩ => ⟨v, D', h', he, hX, hI, hK.imp (fun ⟨h1, xb, m', s', h2, h3, h4, _⟩ => ⟨h1, xb, m', s', h2, h3, h4⟩) id⟩
end
theorem SA57 : zj Tryz.prog 57 [.slice none 0 0, .slice none 0 0, .slice none 0 0] [(0, 1), (1, 1), (2, 1)] := ⟨⟨_, Tryz.zeroValue57, rfl⟩, _, Tryz.underlying57, fun w => by simp [Tryz.sizeOf22, Tryz.sizeOf29, Tryz.sizeOf32]⟩
abbrev zdB := SaF.mk SA57
attribute [instance] zdB
theorem j3 (o : Option Ow) (n : Nat) : (owV o n).cells = (List.toArray [owV o n]) := by cases o <;> rfl
theorem zaW (o : Option Ow) (n : Nat) : (owV o n).oneCell' = true := by cases o <;> rfl
theorem Uy (o : Option Ow) (e : TypeId) (xs : List Value) (hp : Hp) : owH o e xs hp = owH o e xs [] ++ hp := by cases o <;> rfl
def dayH (d : Day) (o1 o2 o3 : Option Ow) : Hp := owH o1 41 (d.tks.flatMap yc) [] ++ (owH o2 44 (d.looks.flatMap ym) [] ++ owH o3 46 (d.book.flatMap entC) [])
def dayO (d : Day) (o1 o2 o3 : Option Ow) : Value := .agg #[owV o1 d.tks.length, owV o2 d.looks.length, owV o3 d.book.length]
theorem zaa {D : Imm} {S : List Nat} {w0 w : World} {e : Nat × Obj} {A B C : Hp} (h : Inv D ((([e] ++ A) ++ B) ++ C) S w0 w) : Inv D (A ++ (B ++ C)) S w0 w := by
  have h2 : Inv D (e :: ((A ++ B) ++ C)) S w0 w := by simpa using h
  have h3 := h2.tail
  rwa [List.append_assoc] at h3
theorem zdr (x : Wick) (d : Day) (m s t l b : Sl) (xb : Nat) (D : Imm) (w w0 : World) (hs0 : w0.heap.size ≤ w.heap.size) (hd : DayR D d t l b) (hH : Holds D w) (hxn : D xb = none) (hx : w.heap[xb]? = some (womO x m s t l b)) : News Tryz.prog 22 [pt xb] w D (fun v D' h' => D' = D ∧ ∃ o1 o2 o3, v = dayO d o1 o2 o3 ∧ owP w0 o1 d.tks.length 5 ∧ owP w0 o2 d.looks.length 4 ∧ owP w0 o3 d.book.length 3 ∧ (owX o1 d.tks.length ∧ owX o2 d.looks.length ∧ owX o3 d.book.length) ∧ h' = dayH d o1 o2 o3) := by
  unfold News;have hdx : DayR (D.add xb (womO x m s t l b)) d t l b := hd.ext (w := { w with heap := #[] }) ⟨xD hxn, fun b h => by simp at h⟩;refine en Tryz.func22 rfl Tryz.ntmps22 (Inv.start (Holds.add hH hx)) (g [[1],[1,0]] ?_);refine WL.so (SO.alloc ZvF.h rfl) rfl (zw fun b2 hb2 => ?_);refine g [[4],[2,2,0]] ?_;refine WL.yd (Yd.eqP UnF.h rfl) rfl (WL.know 4 (.bool false) rfl rfl (g [[4]] ?_));refine WL.ydg rfl (Yd.l1 rfl (Rd.imm (Imm.add_self _ _ _) rfl)) rfl (g [[1]] ?_);refine WL.know 10 (.bool false) rfl rfl (g [[7],[0,2,0]] ?_);refine WC.drawO [] (pz [1,3,5,7,9,13,15,17,19,21,25,27,29,31,33,10,22,34,37,38]) zk zk zX zNl (g [[4]] ?_);refine WA.yd rfl (Yd.l1 rfl (Rd.imm (Imm.add_self _ _ _) rfl)) rfl (g [[4]] ?_);refine WA.yd rfl (Yd.l1 rfl (Rd.imm (Imm.add_self _ _ _) rfl)) rfl (g [[4]] ?_);refine WA.yd rfl (Yd.l1 rfl (Rd.imm (Imm.add_self _ _ _) rfl)) rfl (WA.so rfl (SO.news (Enters.func CaF.h rfl) (fun w2 hI => wV d.tks t.a t.n _ _ hdx.tks hdx.len.1 w2 w0 (Nat.le_trans hs0 hI.keep.size) hI.imm)) rfl ?_);rintro _ _ _ ⟨_, _, ⟨rfl, o1, rfl, ho1, eo1, rfl⟩, rfl⟩;refine ⟨zNl, ?_⟩;refine WA.so rfl (SO.news (Enters.func CaF.h rfl) (fun w2 hI => wU d.looks l.a l.n _ _ hdx.looks hdx.len.2.1 w2 w0 (Nat.le_trans hs0 hI.keep.size) hI.imm)) rfl ?_;rintro _ _ _ ⟨_, _, ⟨rfl, o2, rfl, ho2, eo2, rfl⟩, rfl⟩;refine ⟨zNl, ?_⟩;refine WA.so rfl (SO.news (Enters.func CaF.h rfl) (fun w2 hI => vN d.book b.a b.n _ _ hdx.book hdx.len.2.2 w2 w0 (Nat.le_trans hs0 hI.keep.size) hI.imm)) rfl ?_;rintro _ _ _ ⟨_, _, ⟨rfl, o3, rfl, ho3, eo3, rfl⟩, rfl⟩;refine ⟨zNl, ?_⟩;refine WA.yd rfl (Yd.buildL SA57 [(0, owV o1 d.tks.length, [owV o1 d.tks.length]), (1, owV o2 d.looks.length, [owV o2 d.looks.length]), (2, owV o3 d.book.length, [owV o3 d.book.length])] [owV o1 d.tks.length, owV o2 d.looks.length, owV o3 d.book.length] rfl ⟨j3 _ _, ⟨0, rfl, Nat.le_of_ble_eq_true rfl⟩, j3 _ _, ⟨1, rfl, Nat.le_of_ble_eq_true rfl⟩, j3 _ _, ⟨2, rfl, Nat.le_of_ble_eq_true rfl⟩, trivial⟩ rfl) rfl ?_;refine WA.so rfl (SO.store 0 rfl SzF.h rfl rfl rfl rfl (zqb rfl) (by intro v hv; simp only [List.mem_cons, List.not_mem_nil, or_false] at hv; rcases hv with rfl | rfl | rfl <;> exact zaW _ _)) rfl ?_;rintro _ _ _ ⟨rfl, rfl, rfl⟩;refine ⟨zNl, ?_⟩;refine g [[3]] ?_;refine WP.ret1 rfl rfl rfl (RV.cellN AgF.h SzF.h rfl (vs := [_, _, _]) rfl (RdN.own (k := 0) (n := 3) rfl rfl)) (fun w1 hI => ⟨_, D, dayH d o1 o2 o3, rfl, DExt.refl _ _, zaa (hI.shrink (xD hxn)), rfl, o1, o2, o3, rfl, ho1, ho2, ho3, ⟨eo1, eo2, eo3⟩, rfl⟩)
inductive Pt where
  | s (w : Bs)
  | n (i : Int)
  | b (x : Bool)
  | sp (a c : Int)
instance : Inhabited Pt := ⟨.n 0⟩
def ptV : Pt → Value
  | .s w => .iface 9 (st w)
  | .n i => .iface 3 (it i)
  | .b x => .iface 4 (.bool x)
  | .sp a c => .iface 39 (.agg #[it a, it c])
def ptL : Pt → Bs
  | .s w => w
  | .n i => Lib.itoa i
  | .b x => Lib.itoa (wS x)
  | .sp a c => Lib.itoa a ++ 32 :: Lib.itoa c
def ptC (p : Pt) : List Value := [st (ptL p)]
def ptI (p : Pt) : List Value := [ptV p]
theorem wG : ∀ p, (ptC p).length = 1 := fun _ => rfl
theorem yu : ∀ p, (ptI p).length = 1 := fun _ => rfl
def q9 (l : List Pt) : Bs := Lib.join (l.map ptL) [32]
def ptB : Pt → Prop
  | .s w => w.length ≤ 100
  | .n i => i64B i
  | .b _ => True
  | .sp a c => i64B a ∧ i64B c
def simB : Pt → Bool | .s _ => true | .n _ => true | _ => false
theorem Yp : ∀ (k n : Nat), n < 10 ^ (k + 1) → (Lib.decDigits n).length ≤ k + 1
  | 0, n, h => by rw [Lib.decDigits, dif_pos (by omega)]; simp
  | k + 1, n, h => by
    rw [Lib.decDigits];split
    · simp
    have := Yp k (n / 10) (by rw [Nat.pow_succ] at h; omega);rw [List.length_append, List.length_singleton]; omega
theorem uE {n : Int} (h : i64B n) : (Lib.itoa n).length ≤ 30 := by
  unfold i64B at h;unfold Lib.itoa;split
  · have := Yp 19 n.natAbs (by omega);rw [List.length_cons]; omega
  have := Yp 19 n.toNat (by omega);omega
theorem kc (x : Bool) : i64B (wS x) := by unfold i64B; cases x <;> simp [wS]
theorem zb3 {p : Pt} (h : ptB p) : (ptL p).length ≤ 100 := by
  cases p with
  | s w => exact h
  | n i => have := uE (n := i) h; show (Lib.itoa i).length ≤ 100; omega
  | b x => have := uE (kc x); show (Lib.itoa (wS x)).length ≤ 100; omega
  | sp a c =>
    have h1 := uE (n := a) h.1;have h2 := uE (n := c) h.2
    show (Lib.itoa a ++ 32 :: Lib.itoa c).length ≤ 100;rw [List.length_append, List.length_cons]; omega
theorem zau (K : Nat) : ∀ l : List Bs, (∀ x ∈ l, x.length ≤ K) → (Lib.join l [32]).length ≤ l.length * (K + 1)
  | [], _ => by simp [Lib.join_nil]
  | x :: r, h => by
    have h1 := h x List.mem_cons_self;rw [Lib.join_cons, List.length_append, List.length_cons, Nat.succ_mul]
    have : ∀ r : List Bs, (∀ x ∈ r, x.length ≤ K) → (Lib.joinTail [32] r).length ≤ r.length * (K + 1) := fun r hr => by
      induction r with
      | nil => simp [Lib.joinTail]
      | cons y r ih =>
        have h2 := hr y List.mem_cons_self;have h3 := ih fun z hz => hr z (List.mem_cons_of_mem _ hz);simp only [Lib.joinTail, List.map_cons, List.flatten_cons, List.length_append, List.length_cons, List.length_nil] at h3 ⊢;rw [Nat.succ_mul]; omega
    have := this r fun z hz => h z (List.mem_cons_of_mem _ hz);omega
theorem W8 {l : List Pt} (h : ∀ p ∈ l, ptB p) (hl : l.length ≤ 100) : (Lib.join (l.map ptL) [32]).length ≤ 100000 := by
  have := zau 100 (l.map ptL) fun x hx => by
    obtain ⟨p, hp, rfl⟩ := List.mem_map.1 hx;exact zb3 (h p hp)
  rw [List.length_map] at this;omega
theorem W9 (i : Int) : q9 [.n i] = Lib.itoa i := Lib.join_one _ _
theorem K3 (a c : Int) : q9 [.n a, .n c] = Lib.itoa a ++ 32 :: Lib.itoa c := by simp [q9, ptL, Lib.join_cons, Lib.joinTail]
theorem xa (w : Bs) (ns : List Int) : q9 (.s w :: ns.map .n) = repL w ns := by
  unfold q9 repL;rw [List.map_cons, Lib.join_cons, List.map_map]
  show w ++ Lib.joinTail [32] _ = _;congr 1;unfold Lib.joinTail;rw [List.map_map, List.flatMap_def];rfl
theorem Q9 (w : Bs) (n : Int) (x : Bool) : q9 [.s w, .n n, .b x] = repL w [n, wS x] := by simp [q9, repL, ptL, Lib.join_cons, Lib.joinTail]
theorem jk (w : Bs) (a c : Int) : q9 [.s w, .sp a c] = repL w [a, c] := by simp [q9, repL, ptL, Lib.join_cons, Lib.joinTail]
section
variable (l : List Pt) (a : Option Addr) (n c : Nat) (D : Imm) (hL : LibW D) (hS : SlL D 1 (l.map ptI) a n) (hn : n ≤ 100) (hB : ∀ p ∈ l, ptB p)
include l a n c D hL hS hn hB
theorem Q8 (hsim : ∀ p ∈ l, simB p = true) (w : World) (hH : Holds D w) : z8 Tryz.prog 223 [.slice a n c] w (st (q9 l)) := by
  unfold z8;obtain rfl := hS.len';refine en Tryz.func223 rfl Tryz.ntmps223 (Inv.start hH) (g [[1],[5,0],[6,2,0],[7,3,2,0]] ?_);refine WC.loop (fun y : Nat × Option Ow => [(3, owV y.2 y.1), (11, .slice a l.length c), (12, nt l.length), (13, nt y.1)]) (fun y => owH y.2 9 ((l.take y.1).flatMap ptC) []) (fun _ => D) (fun y => y.1 ≤ l.length ∧ owP w y.2 y.1 1) (fun y => l.length - y.1) (0, none) ⟨by omega, rfl⟩ (fun a w h => y4 h ⟨rfl, rfl, rfl, rfl, trivial⟩) ?_;rintro ⟨k, o⟩ ⟨hk, ho⟩;dsimp only at hk ho;refine g [[1],[5,3,11,12,13]] ?_;refine WC.cond rfl (fun c14 => ?_) (fun c14 => ?_)
  · try simp only [zq] at c14
    have hkl : k < l.length := by omega
    refine g [[5],[1,3,11,12,13]] ?_;refine WL.yd (Yd.ix rfl rfl (hS.addr k (by omega))) rfl (WL.yd (Yd.l1 rfl ((hS.at k (by omega)).rd 0 rfl)) rfl (g [[4]] ?_));cases hgp : gt l k
    · rename_i q
      refine g [[6,5,3,11,12,13],[1,17,3,11,12,13]] ?_;refine WL.yd (Yd.assert UnF.h (by intro _ h; cases h) rfl) rfl (g [[6],[4,20,3,11,12,13],[3,6,3,11,12,13]] ?_);refine WL.so (SO.buildSlice1 UnF.h SzF.h ZvF.h rfl rfl rfl (vs := [_]) rfl rfl rfl) rfl ?_;rintro _ _ _ ⟨b23, hb23, rfl, rfl, rfl⟩;refine WL.so (SO.appendOwW (W := w) (Nat.le_refl _) (o := o) (len := k) (n := 1) (xs := ((l.take k).flatMap ptC)) (size := 1) [_] [] [] rfl rfl Tryz.underlying37 Tryz.sizeOf9 Tryz.typeInfo9 Tryz.zeroValue9 rfl rfl rfl rfl ⟨rfl, .inr ⟨_, _, _, rfl, RdN.own (k := 0) (n := 1) rfl rfl⟩⟩ (za rfl) ho (by rw [zr wG, List.length_take, Nat.min_eq_left (by omega), Nat.mul_one]) (by omega) (by show (2 * (_ + _) + 1000) * 16 ≤ 2 ^ 48; omega) (by omega)) rfl ?_;rintro _ _ _ ⟨u1, hu1, rfl, rfl, rfl⟩;refine g [[5],[4,3,11,12,13]] ?_;exact WP.again (⟨k + 1, some u1⟩ : Nat × Option Ow) ⟨by simp only; omega, hu1⟩ (by simp only; omega) (fun aa ww h => yM 0 h ⟨rfl, rfl, rfl, rfl, trivial⟩ (by dsimp only; rw [zP hkl, List.flatMap_append, hgp]; first | exact List.Perm.refl _ | (simp only [List.flatMap_cons, List.flatMap_nil, ptC, ptL]; exact List.Perm.refl _)) (fun _ _ h => h))
    · rename_i q
      refine g [[6,5,3,11,12,13],[1,17,3,11,12,13]] ?_;refine WL.yd (Yd.assertNo UnF.h (by intro _ h; cases h) ZvF.h rfl rfl) rfl (g [[6],[1,17,3,11,12,13]] ?_);refine WL.yd (Yd.assert UnF.h (by intro _ h; cases h) rfl) rfl (g [[6],[4,27,3,11,12,13],[3,7,3,11,12,13]] ?_);refine WL.cl rfl (fun w hI => Xw q (by have := hB _ (gt_mem' hkl); rw [hgp] at this; exact this) D hL _ hI.imm) ?_;refine WL.so (SO.buildSlice1 UnF.h SzF.h ZvF.h rfl rfl rfl (vs := [_]) rfl rfl rfl) rfl ?_;rintro _ _ _ ⟨b31, hb31, rfl, rfl, rfl⟩;refine WL.so (SO.appendOwW (W := w) (Nat.le_refl _) (o := o) (len := k) (n := 1) (xs := ((l.take k).flatMap ptC)) (size := 1) [_] [] [] rfl rfl Tryz.underlying37 Tryz.sizeOf9 Tryz.typeInfo9 Tryz.zeroValue9 rfl rfl rfl rfl ⟨rfl, .inr ⟨_, _, _, rfl, RdN.own (k := 0) (n := 1) rfl rfl⟩⟩ (za rfl) ho (by rw [zr wG, List.length_take, Nat.min_eq_left (by omega), Nat.mul_one]) (by omega) (by show (2 * (_ + _) + 1000) * 16 ≤ 2 ^ 48; omega) (by omega)) rfl ?_;rintro _ _ _ ⟨u1, hu1, rfl, rfl, rfl⟩;refine g [[5],[4,3,11,12,13]] ?_;exact WP.again (⟨k + 1, some u1⟩ : Nat × Option Ow) ⟨by simp only; omega, hu1⟩ (by simp only; omega) (fun aa ww h => yM 0 h ⟨rfl, rfl, rfl, rfl, trivial⟩ (by dsimp only; rw [zP hkl, List.flatMap_append, hgp]; first | exact List.Perm.refl _ | (simp only [List.flatMap_cons, List.flatMap_nil, ptC, ptL]; exact List.Perm.refl _)) (fun _ _ h => h))
    · exact absurd (hsim _ (gt_mem' hkl)) (by rw [hgp]; simp [simB])
    exact absurd (hsim _ (gt_mem' hkl)) (by rw [hgp]; simp [simB])
  try simp only [zq] at c14
  obtain rfl : k = l.length := by omega
  refine g [[6],[2,3]] ?_;refine WL.know 59 (.slice (owAt o) l.length (owCp o l.length)) rfl (xg (wt ho)) ?_;refine WL.freezeOw (f := ptC) (m := 1) wG [] [] o 9 l rfl ho (by rw [List.take_length]; rfl) (fun D3 hX3 hS3 => ?_)
  have hcap : l.length ≤ owCp o l.length := by
    cases o with
    | none => have h0 : l.length = 0 := ho
              rw [h0]; exact Nat.zero_le _
    | some u => exact ho.2.1
  refine WL.cl rfl (fun w hI => Kt (l.map ptL) (owAt o) l.length (owCp o l.length) D3 (by rw [List.map_map]; exact hS3) (by omega) hcap (W8 hB hn) _ hI.imm) (g [[4]] ?_);refine WP.ret1 rfl rfl rfl (RV.tmp rfl) (fun w1 hI => ⟨rfl, hI.keep⟩)
theorem xK (w : World) (hH : Holds D w) : z8 Tryz.prog 223 [.slice a n c] w (st (q9 l)) := by
  unfold z8;obtain rfl := hS.len';refine en Tryz.func223 rfl Tryz.ntmps223 (Inv.start hH) (g [[1],[5,0],[6,2,0],[7,3,2,0]] ?_);refine WC.loop (fun y : Nat × Option Ow => [(3, owV y.2 y.1), (11, .slice a l.length c), (12, nt l.length), (13, nt y.1)]) (fun y => owH y.2 9 ((l.take y.1).flatMap ptC) []) (fun _ => D) (fun y => y.1 ≤ l.length ∧ owP w y.2 y.1 1) (fun y => l.length - y.1) (0, none) ⟨by omega, rfl⟩ (fun a w h => y4 h ⟨rfl, rfl, rfl, rfl, trivial⟩) ?_;rintro ⟨k, o⟩ ⟨hk, ho⟩;dsimp only at hk ho;refine g [[1],[5,3,11,12,13]] ?_;refine WC.cond rfl (fun c14 => ?_) (fun c14 => ?_)
  · try simp only [zq] at c14
    have hkl : k < l.length := by omega
    refine g [[5],[1,3,11,12,13]] ?_;refine WL.yd (Yd.ix rfl rfl (hS.addr k (by omega))) rfl (WL.yd (Yd.l1 rfl ((hS.at k (by omega)).rd 0 rfl)) rfl (g [[4]] ?_));cases hgp : gt l k
    · rename_i q
      refine g [[6,5,3,11,12,13],[1,17,3,11,12,13]] ?_;refine WL.yd (Yd.assert UnF.h (by intro _ h; cases h) rfl) rfl (g [[6],[4,20,3,11,12,13],[3,6,3,11,12,13]] ?_);refine WL.so (SO.buildSlice1 UnF.h SzF.h ZvF.h rfl rfl rfl (vs := [_]) rfl rfl rfl) rfl ?_;rintro _ _ _ ⟨b23, hb23, rfl, rfl, rfl⟩;refine WL.so (SO.appendOwW (W := w) (Nat.le_refl _) (o := o) (len := k) (n := 1) (xs := ((l.take k).flatMap ptC)) (size := 1) [_] [] [] rfl rfl Tryz.underlying37 Tryz.sizeOf9 Tryz.typeInfo9 Tryz.zeroValue9 rfl rfl rfl rfl ⟨rfl, .inr ⟨_, _, _, rfl, RdN.own (k := 0) (n := 1) rfl rfl⟩⟩ (za rfl) ho (by rw [zr wG, List.length_take, Nat.min_eq_left (by omega), Nat.mul_one]) (by omega) (by show (2 * (_ + _) + 1000) * 16 ≤ 2 ^ 48; omega) (by omega)) rfl ?_;rintro _ _ _ ⟨u1, hu1, rfl, rfl, rfl⟩;refine g [[5],[4,3,11,12,13]] ?_;exact WP.again (⟨k + 1, some u1⟩ : Nat × Option Ow) ⟨by simp only; omega, hu1⟩ (by simp only; omega) (fun aa ww h => yM 0 h ⟨rfl, rfl, rfl, rfl, trivial⟩ (by dsimp only; rw [zP hkl, List.flatMap_append, hgp]; first | exact List.Perm.refl _ | (simp only [List.flatMap_cons, List.flatMap_nil, ptC, ptL]; exact List.Perm.refl _)) (fun _ _ h => h))
    · rename_i q
      refine g [[6,5,3,11,12,13],[1,17,3,11,12,13]] ?_;refine WL.yd (Yd.assertNo UnF.h (by intro _ h; cases h) ZvF.h rfl rfl) rfl (g [[6],[1,17,3,11,12,13]] ?_);refine WL.yd (Yd.assert UnF.h (by intro _ h; cases h) rfl) rfl (g [[6],[4,27,3,11,12,13],[3,7,3,11,12,13]] ?_);refine WL.cl rfl (fun w hI => Xw q (by have := hB _ (gt_mem' hkl); rw [hgp] at this; exact this) D hL _ hI.imm) ?_;refine WL.so (SO.buildSlice1 UnF.h SzF.h ZvF.h rfl rfl rfl (vs := [_]) rfl rfl rfl) rfl ?_;rintro _ _ _ ⟨b31, hb31, rfl, rfl, rfl⟩;refine WL.so (SO.appendOwW (W := w) (Nat.le_refl _) (o := o) (len := k) (n := 1) (xs := ((l.take k).flatMap ptC)) (size := 1) [_] [] [] rfl rfl Tryz.underlying37 Tryz.sizeOf9 Tryz.typeInfo9 Tryz.zeroValue9 rfl rfl rfl rfl ⟨rfl, .inr ⟨_, _, _, rfl, RdN.own (k := 0) (n := 1) rfl rfl⟩⟩ (za rfl) ho (by rw [zr wG, List.length_take, Nat.min_eq_left (by omega), Nat.mul_one]) (by omega) (by show (2 * (_ + _) + 1000) * 16 ≤ 2 ^ 48; omega) (by omega)) rfl ?_;rintro _ _ _ ⟨u1, hu1, rfl, rfl, rfl⟩;refine g [[5],[4,3,11,12,13]] ?_;exact WP.again (⟨k + 1, some u1⟩ : Nat × Option Ow) ⟨by simp only; omega, hu1⟩ (by simp only; omega) (fun aa ww h => yM 0 h ⟨rfl, rfl, rfl, rfl, trivial⟩ (by dsimp only; rw [zP hkl, List.flatMap_append, hgp]; first | exact List.Perm.refl _ | (simp only [List.flatMap_cons, List.flatMap_nil, ptC, ptL]; exact List.Perm.refl _)) (fun _ _ h => h))
    · rename_i q
      refine g [[6,5,3,11,12,13],[1,17,3,11,12,13]] ?_;refine WL.yd (Yd.assertNo UnF.h (by intro _ h; cases h) ZvF.h rfl rfl) rfl (g [[6],[1,17,3,11,12,13]] ?_);refine WL.yd (Yd.assertNo UnF.h (by intro _ h; cases h) ZvF.h rfl rfl) rfl (g [[6],[1,17,3,11,12,13]] ?_);refine WL.yd (Yd.assert UnF.h (by intro _ h; cases h) rfl) rfl (g [[6],[5,35,3,11,12,13],[6,8,3,11,12,13],[4,9,8,3,11,12,13]] ?_);refine WC.cond rfl (fun c36 => ?_) (fun c36 => ?_)
      · refine g [[4,9,3,11,12,13],[4,9,3,11,12,13]] ?_;refine WL.so (SO.buildSlice1 UnF.h SzF.h ZvF.h rfl rfl rfl (vs := [_]) rfl rfl rfl) rfl ?_;rintro _ _ _ ⟨b40, hb40, rfl, rfl, rfl⟩;refine WL.freezeN 0 b40 (.cells (List.toArray ([Pt.n 1].flatMap ptI ++ [])) 20 (0, 0)) rfl rfl hb40 (fun D2 hX2 h40 => ?_);refine WL.cl rfl (fun w hI => Q8 [Pt.n (wS q)] (some ⟨b40, 0, none⟩) 1 1 D2 (hL.ext hX2) (by rw [show wS q = _ from by rw [c36]]; exact SlL.ofBlock yu h40) (by decide) (by intro p hp; obtain rfl := List.mem_singleton.1 hp; exact kc q) (by intro p hp; obtain rfl := List.mem_singleton.1 hp; rfl) _ hI.imm) ?_;refine WL.know 41 (st (ptL (.b q))) rfl (by rw [W9]; rfl) ?_;refine WL.so (SO.buildSlice1 UnF.h SzF.h ZvF.h rfl rfl rfl (vs := [_]) rfl rfl rfl) rfl ?_;rintro _ _ _ ⟨b42, hb42, rfl, rfl, rfl⟩;refine WL.so (SO.appendOwW (W := w) (Nat.le_refl _) (o := o) (len := k) (n := 1) (xs := ((l.take k).flatMap ptC)) (size := 1) [_] [] [] rfl rfl Tryz.underlying37 Tryz.sizeOf9 Tryz.typeInfo9 Tryz.zeroValue9 rfl rfl rfl rfl ⟨rfl, .inr ⟨_, _, _, rfl, RdN.own (k := 0) (n := 1) rfl rfl⟩⟩ (za rfl) ho (by rw [zr wG, List.length_take, Nat.min_eq_left (by omega), Nat.mul_one]) (by omega) (by show (2 * (_ + _) + 1000) * 16 ≤ 2 ^ 48; omega) (by omega)) rfl ?_;rintro _ _ _ ⟨u1, hu1, rfl, rfl, rfl⟩;refine g [[5],[4,3,11,12,13]] ?_;exact WP.again (⟨k + 1, some u1⟩ : Nat × Option Ow) ⟨by simp only; omega, hu1⟩ (by simp only; omega) (fun aa ww h => yM 0 h ⟨rfl, rfl, rfl, rfl, trivial⟩ (by dsimp only; rw [zP hkl, List.flatMap_append, hgp]; first | exact List.Perm.refl _ | (simp only [List.flatMap_cons, List.flatMap_nil, ptC, ptL]; exact List.Perm.refl _)) hX2.old)
      refine g [[2],[4,9,3,11,12,13]] ?_;refine WL.so (SO.buildSlice1 UnF.h SzF.h ZvF.h rfl rfl rfl (vs := [_]) rfl rfl rfl) rfl ?_;rintro _ _ _ ⟨b40, hb40, rfl, rfl, rfl⟩;refine WL.freezeN 0 b40 (.cells (List.toArray ([Pt.n 0].flatMap ptI ++ [])) 20 (0, 0)) rfl rfl hb40 (fun D2 hX2 h40 => ?_);refine WL.cl rfl (fun w hI => Q8 [Pt.n (wS q)] (some ⟨b40, 0, none⟩) 1 1 D2 (hL.ext hX2) (by rw [show wS q = _ from by rw [c36]]; exact SlL.ofBlock yu h40) (by decide) (by intro p hp; obtain rfl := List.mem_singleton.1 hp; exact kc q) (by intro p hp; obtain rfl := List.mem_singleton.1 hp; rfl) _ hI.imm) ?_;refine WL.know 41 (st (ptL (.b q))) rfl (by rw [W9]; rfl) ?_;refine WL.so (SO.buildSlice1 UnF.h SzF.h ZvF.h rfl rfl rfl (vs := [_]) rfl rfl rfl) rfl ?_;rintro _ _ _ ⟨b42, hb42, rfl, rfl, rfl⟩;refine WL.so (SO.appendOwW (W := w) (Nat.le_refl _) (o := o) (len := k) (n := 1) (xs := ((l.take k).flatMap ptC)) (size := 1) [_] [] [] rfl rfl Tryz.underlying37 Tryz.sizeOf9 Tryz.typeInfo9 Tryz.zeroValue9 rfl rfl rfl rfl ⟨rfl, .inr ⟨_, _, _, rfl, RdN.own (k := 0) (n := 1) rfl rfl⟩⟩ (za rfl) ho (by rw [zr wG, List.length_take, Nat.min_eq_left (by omega), Nat.mul_one]) (by omega) (by show (2 * (_ + _) + 1000) * 16 ≤ 2 ^ 48; omega) (by omega)) rfl ?_;rintro _ _ _ ⟨u1, hu1, rfl, rfl, rfl⟩;refine g [[5],[4,3,11,12,13]] ?_;exact WP.again (⟨k + 1, some u1⟩ : Nat × Option Ow) ⟨by simp only; omega, hu1⟩ (by simp only; omega) (fun aa ww h => yM 0 h ⟨rfl, rfl, rfl, rfl, trivial⟩ (by dsimp only; rw [zP hkl, List.flatMap_append, hgp]; first | exact List.Perm.refl _ | (simp only [List.flatMap_cons, List.flatMap_nil, ptC, ptL]; exact List.Perm.refl _)) hX2.old)
    rename_i qa qc
    refine g [[6,5,3,11,12,13],[1,17,3,11,12,13]] ?_;refine WL.yd (Yd.assertNo UnF.h (by intro _ h; cases h) ZvF.h rfl rfl) rfl (g [[6],[1,17,3,11,12,13]] ?_);refine WL.yd (Yd.assertNo UnF.h (by intro _ h; cases h) ZvF.h rfl rfl) rfl (g [[6],[1,17,3,11,12,13]] ?_);refine WL.yd (Yd.assertNo UnF.h (by intro _ h; cases h) ZvF.h rfl rfl) rfl (g [[6],[1,17,3,11,12,13]] ?_);refine WL.yd (Yd.assert UnF.h (by intro _ h; cases h) rfl) rfl (g [[6],[1,46,3,11,12,13]] ?_);refine WL.so (SO.alloc ZvF.h rfl) rfl (zw fun b10 hb10 => ?_);refine g [[3],[8,10,3,11,12,13]] ?_;refine WL.so (SO.buildSlice1 UnF.h SzF.h ZvF.h rfl rfl rfl (vs := [_, _]) rfl rfl rfl) rfl ?_;rintro _ _ _ ⟨b54, hb54, rfl, rfl, rfl⟩;refine WL.freezeN 0 b54 (.cells (List.toArray ([Pt.n qa, Pt.n qc].flatMap ptI ++ [])) 20 (0, 0)) rfl rfl hb54 (fun D2 hX2 h54 => ?_);refine WL.cl rfl (fun w hI => Q8 [Pt.n qa, Pt.n qc] (some ⟨b54, 0, none⟩) 2 2 D2 (hL.ext hX2) (SlL.ofBlock yu h54) (by decide) (by have := hB _ (gt_mem' hkl); rw [hgp] at this; intro p hp; simp only [List.mem_cons, List.not_mem_nil, or_false] at hp; rcases hp with rfl | rfl; exact this.1; exact this.2) (by intro p hp; simp only [List.mem_cons, List.not_mem_nil, or_false] at hp; rcases hp with rfl | rfl <;> rfl) _ hI.imm) ?_;refine WL.know 55 (st (ptL (.sp qa qc))) rfl (by rw [K3]; rfl) ?_;refine WL.so (SO.buildSlice1 UnF.h SzF.h ZvF.h rfl rfl rfl (vs := [_]) rfl rfl rfl) rfl ?_;rintro _ _ _ ⟨b56, hb56, rfl, rfl, rfl⟩;refine WL.so (SO.appendOwW (W := w) (Nat.le_refl _) (o := o) (len := k) (n := 1) (xs := ((l.take k).flatMap ptC)) (size := 1) [_] [_] [] rfl rfl Tryz.underlying37 Tryz.sizeOf9 Tryz.typeInfo9 Tryz.zeroValue9 rfl rfl rfl rfl ⟨rfl, .inr ⟨_, _, _, rfl, RdN.own (k := 0) (n := 1) rfl rfl⟩⟩ (za rfl) ho (by rw [zr wG, List.length_take, Nat.min_eq_left (by omega), Nat.mul_one]) (by omega) (by show (2 * (_ + _) + 1000) * 16 ≤ 2 ^ 48; omega) (by omega)) rfl ?_;rintro _ _ _ ⟨u1, hu1, rfl, rfl, rfl⟩;refine g [[5],[4,3,11,12,13]] ?_;exact WP.again (⟨k + 1, some u1⟩ : Nat × Option Ow) ⟨by simp only; omega, hu1⟩ (by simp only; omega) (fun aa ww h => yM 1 h ⟨rfl, rfl, rfl, rfl, trivial⟩ (by dsimp only; rw [zP hkl, List.flatMap_append, hgp]; first | exact List.Perm.refl _ | (simp only [List.flatMap_cons, List.flatMap_nil, ptC, ptL]; exact List.Perm.refl _)) hX2.old)
  try simp only [zq] at c14
  obtain rfl : k = l.length := by omega
  refine g [[6],[2,3]] ?_;refine WL.know 59 (.slice (owAt o) l.length (owCp o l.length)) rfl (xg (wt ho)) ?_;refine WL.freezeOw (f := ptC) (m := 1) wG [] [] o 9 l rfl ho (by rw [List.take_length]; rfl) (fun D3 hX3 hS3 => ?_)
  have hcap : l.length ≤ owCp o l.length := by
    cases o with
    | none => have h0 : l.length = 0 := ho
              rw [h0]; exact Nat.zero_le _
    | some u => exact ho.2.1
  refine WL.cl rfl (fun w hI => Kt (l.map ptL) (owAt o) l.length (owCp o l.length) D3 (by rw [List.map_map]; exact hS3) (by omega) hcap (W8 hB hn) _ hI.imm) (g [[4]] ?_);refine WP.ret1 rfl rfl rfl (RV.tmp rfl) (fun w1 hI => ⟨rfl, hI.keep⟩)
end
def AskK (w : World) (r : Rep) (e : Ending) (w' : World) : Prop := Keep [] w w' ∧ ((r.2.2 = 0 ∧ e = .returned (st r.2.1)) ∨ (r.2.2 ≠ 0 ∧ e = .panicked (jA r.2.2)))
theorem u3 {w w' : World} {d : Day} {sw : Bs} {r : List Int} {e : Int} {q : Bs} (he : e = 0) (hq : q = repL sw r) (hk : Keep [] w w') : AskK w (askD d sw r e) (.returned (st q)) w' := by
  subst he; subst hq;exact ⟨hk, .inl ⟨rfl, rfl⟩⟩
theorem u2 {w w' : World} {d : Day} {sw : Bs} {r : List Int} {e f : Int} (he : e ≠ 0) (hf : f = e) (hk : Keep [] w w') : AskK w (askD d sw r e) (.panicked (jA f)) w' := by
  subst hf;have h : askD d sw r f = errD d f := by unfold askD; rw [if_pos he]
  rw [h];exact ⟨hk, .inr ⟨he, rfl⟩⟩
theorem KD {T : Tks} (n : Int) : 0 ≤ (zu T n).1 ∧ (zu T n).1 ≤ 2 := by
  unfold zu; split
  · simp
  dsimp only; unfold vI; split
  · omega
  split <;> omega
theorem Qk {T : Tks} (hv : tksB T = true) (m : Int) : 0 ≤ (zi T m).1 ∧ (zi T m).1 < 32 := by
  unfold zi; split
  · simp
  have h := qB (fun i => (allT T).any fun t => decide (nowI t m T.l.length = (i : Int))) T.l.length;have h2 := Nat.pow_le_pow_right (show 0 < 2 by decide) (y8 hv).2.1;dsimp only; omega
theorem qE {T : Tide} (hv : zQ T = true) (p m : Int) : (0 ≤ (zf T p m).1.lo ∧ (zf T p m).1.lo ≤ 60) ∧ 0 ≤ (zf T p m).1.hi ∧ (zf T p m).1.hi ≤ 60 := by
  unfold zf; split
  · simp
  rename_i h
  unfold un at h;rw [hv] at h;cases hw : (yO T p && zx T m) with
  | false => rw [hw] at h; simp at h
  | true =>
    by_cases hn : tdL T = []
    · rw [hw, hn] at h; simp at h
    simp only [Bool.and_eq_true] at hw;obtain ⟨a, rfl, ha⟩ := uL hw.1;have := Vy (yK.1 hv) hn ha hw.2;dsimp only [Int.toNat_natCast]; omega
section
variable (x : Wick) (d : Day) (m s t l b : Sl) (xb : Nat) (D : Imm) (w : World) (hw : zS x = true) (hdo : zT x d) (hW : yG D x m s) (hd : DayR D d t l b) (hL : LibW D) (hH : Holds D w) (hxn : D xb = none) (hx : w.heap[xb]? = some (womO x m s t l b)) (ls : List Int) (al : Option Addr) (nl cl : Nat) (hls : SlL D 1 (ls.map intC) al nl)
include x d m s t l b xb D w hw hdo hW hd hL hH hxn hx ls al nl cl hls
theorem zbq (hnl : ls.length = 1) (hll : nl ≤ 1000) : Calls Tryz.prog 153 (List.toArray [pt xb, .slice al nl cl]) w fun e w' => AskK w (doD x d yF ls) e w' := by
  have hXx : DExt { w with heap := #[] } D (D.add xb (womO x m s t l b)) := ⟨xD hxn, fun b h => by simp at h⟩;replace hW := hW.ext hXx;replace hd := hd.ext hXx;replace hL := hL.ext hXx;replace hls := hls.ext hXx;have hxD := Imm.add_self D xb (womO x m s t l b);have hHx := Holds.add hH hx;generalize D.add xb (womO x m s t l b) = Dx at hW hd hL hls hxD hHx;obtain rfl := hls.len';rw [kk];refine en Tryz.func153 rfl Tryz.ntmps153 (Inv.start hHx) (g [[1],[5,0,1],[0,4,0,1]] ?_);refine WC.drawO [] (pz [1,5,7,9,2,10,13,15,17,19,21]) zk zk zX zNl (g [[2]] ?_);refine WA.yd rfl (Yd.ix rfl rfl (hls.addr 0 (by omega))) rfl (WA.yd rfl (Yd.l1 rfl ((hls.at 0 (by omega)).rd 0 rfl)) rfl ?_);refine WA.so rfl (SO.callP CaF.h rfl (fun w hI => Ya x m s t l b xb _ (hI.imm _ _ hxD))) rfl (zs ⟨zNl, ?_⟩);refine WA.so rfl (SO.callP CaF.h rfl (fun w hI => Ze (tksW x d) t.a t.n t.c Dx _ (wM hd) hI.imm (gt ls 0))) rfl (zs ⟨zNl, ?_⟩);refine g [[8],[4,6,5,4]] ?_;refine WL.part 17 rfl (fun g17 => ?_) (fun g17 => ?_)
  · try simp only [zq] at g17
    refine WL.cl rfl (fun w hI => zB _ _) (g [[3],[4,5,4]] ?_);refine WL.so (SO.buildSlice1 UnF.h SzF.h ZvF.h rfl rfl rfl (vs := [_, _]) rfl rfl rfl) rfl ?_;rintro _ _ _ ⟨b23, hb23, rfl, rfl, rfl⟩;refine WL.freezeN 0 b23 (.cells (List.toArray ([Pt.s yF, Pt.n (zu (tksW x d) (gt ls 0)).1].flatMap ptI ++ [])) 20 (0, 0)) rfl rfl hb23 (fun D9 hX9 h23 => ?_);refine WL.cl rfl (fun w hI => xK [Pt.s yF, Pt.n (zu (tksW x d) (gt ls 0)).1] (some ⟨b23, 0, none⟩) 2 2 D9 (hL.ext hX9) (SlL.ofBlock yu h23) (by decide) (by intro p hp; simp only [List.mem_cons, List.not_mem_nil, or_false] at hp; rcases hp with rfl | rfl; exact (show List.length _ ≤ 100 by decide); exact (by have := KD (T := tksW x d) (gt ls 0); unfold ptB; unfold i64B; omega)) _ hI.imm) (g [[4]] ?_);refine WP.ret1 rfl rfl rfl (RV.tmp rfl) (fun w1 hI => u3 (by assumption) (xa _ [_]) hI.keep)
  try simp only [zq] at g17
  refine WL.nf rfl (fun w hI => zy _ _) (g [[1]] ?_);exact WP.panicBody rfl (fun w1 hI => u2 (by assumption) rfl hI.keep)
theorem Kc (hnl : ls.length = 1) (hll : nl ≤ 1000) : Calls Tryz.prog 154 (List.toArray [pt xb, .slice al nl cl]) w fun e w' => AskK w (doD x d y3 ls) e w' := by
  have hXx : DExt { w with heap := #[] } D (D.add xb (womO x m s t l b)) := ⟨xD hxn, fun b h => by simp at h⟩;replace hW := hW.ext hXx;replace hd := hd.ext hXx;replace hL := hL.ext hXx;replace hls := hls.ext hXx;have hxD := Imm.add_self D xb (womO x m s t l b);have hHx := Holds.add hH hx;generalize D.add xb (womO x m s t l b) = Dx at hW hd hL hls hxD hHx;obtain rfl := hls.len';rw [qi];refine en Tryz.func154 rfl Tryz.ntmps154 (Inv.start hHx) (g [[1],[5,0,1],[0,4,0,1]] ?_);refine WC.drawO [] (pz [1,5,7,9,2,10,13,15,17,19,21,23,25]) zk zk zX zNl (g [[2]] ?_);refine WA.yd rfl (Yd.ix rfl rfl (hls.addr 0 (by omega))) rfl (WA.yd rfl (Yd.l1 rfl ((hls.at 0 (by omega)).rd 0 rfl)) rfl ?_);refine WA.so rfl (SO.callP CaF.h rfl (fun w hI => Ya x m s t l b xb _ (hI.imm _ _ hxD))) rfl (zs ⟨zNl, ?_⟩);refine WA.so rfl (SO.callP CaF.h rfl (fun w hI => Vo (tksW x d) t.a t.n t.c Dx _ (wM hd) hI.imm hdo.tks (gt ls 0))) rfl (zs ⟨zNl, ?_⟩);refine g [[10],[4,7,6,5,4]] ?_;refine WL.part 19 rfl (fun g19 => ?_) (fun g19 => ?_)
  · try simp only [zq] at g19
    refine WL.cl rfl (fun w hI => zB _ _) (g [[3],[6,6,5,4]] ?_);refine WL.so (SO.buildSlice1 UnF.h SzF.h ZvF.h rfl rfl rfl (vs := [_, _, _]) rfl rfl rfl) rfl ?_;rintro _ _ _ ⟨b27, hb27, rfl, rfl, rfl⟩;refine WL.freezeN 0 b27 (.cells (List.toArray ([Pt.s y3, Pt.n (zi (tksW x d) (gt ls 0)).1, Pt.b (zi (tksW x d) (gt ls 0)).2.1].flatMap ptI ++ [])) 20 (0, 0)) rfl rfl hb27 (fun D9 hX9 h27 => ?_);refine WL.cl rfl (fun w hI => xK [Pt.s y3, Pt.n (zi (tksW x d) (gt ls 0)).1, Pt.b (zi (tksW x d) (gt ls 0)).2.1] (some ⟨b27, 0, none⟩) 3 3 D9 (hL.ext hX9) (SlL.ofBlock yu h27) (by decide) (by intro p hp; simp only [List.mem_cons, List.not_mem_nil, or_false] at hp; rcases hp with rfl | rfl | rfl; exact (show List.length _ ≤ 100 by decide); exact (by have := Qk hdo.tks (gt ls 0); unfold ptB; unfold i64B; omega); exact trivial) _ hI.imm) (g [[4]] ?_);refine WP.ret1 rfl rfl rfl (RV.tmp rfl) (fun w1 hI => u3 (by assumption) (Q9 _ _ _) hI.keep)
  try simp only [zq] at g19
  refine WL.nf rfl (fun w hI => zy _ _) (g [[1]] ?_);exact WP.panicBody rfl (fun w1 hI => u2 (by assumption) rfl hI.keep)
theorem QO (hnl : ls.length = 2) (hll : nl ≤ 1000) : Calls Tryz.prog 156 (List.toArray [pt xb, .slice al nl cl]) w fun e w' => AskK w (doD x d zz ls) e w' := by
  have hXx : DExt { w with heap := #[] } D (D.add xb (womO x m s t l b)) := ⟨xD hxn, fun b h => by simp at h⟩;replace hW := hW.ext hXx;replace hd := hd.ext hXx;replace hL := hL.ext hXx;replace hls := hls.ext hXx;have hxD := Imm.add_self D xb (womO x m s t l b);have hHx := Holds.add hH hx;generalize D.add xb (womO x m s t l b) = Dx at hW hd hL hls hxD hHx;obtain rfl := hls.len';rw [qf];refine en Tryz.func156 rfl Tryz.ntmps156 (Inv.start hHx) (g [[1],[5,0,1],[0,4,0,1]] ?_);refine WC.drawH [] zk zNl (g [[1000],[1002]] ?_);refine WH.yd (i := 3) zk zX rfl (Yd.ix rfl rfl (hls.addr 0 (by omega))) rfl (WH.yd (i := 4) zk zX rfl (Yd.l1 rfl ((hls.at 0 (by omega)).rd 0 rfl)) rfl (g [[1005]] ?_));refine WH.yd (i := 6) zk zX rfl (Yd.ix rfl rfl (hls.addr 0 (by omega))) rfl (WH.yd (i := 7) zk zX rfl (Yd.l1 rfl ((hls.at 1 (by omega)).rd 0 rfl)) rfl ?_);refine WH.two (i := 1) (j := 12) zk ?_ ?_
  · refine WHo.so rfl (SO.callP CaF.h rfl (fun w hI => jo x m s t l b xb _ (hI.imm _ _ hxD))) rfl (zs ⟨zNl, ?_⟩);refine WH.two (i := 8) (j := 12) zk ?_ ?_
    · refine WHo.so rfl (SO.callP CaF.h rfl (fun w hI => k7 (zE x d) m.a s.a l.a _ _ _ m.c s.c l.c Dx _ (wK hW hd) hI.imm hL (gt ls 0) (gt ls 1))) rfl (zs ⟨zNl, ?_⟩);refine g [[1009],[1010],[1011]] ?_;refine WH.one (i := 12) zk (WHo.so rfl (SO.alloc ZvF.h rfl) rfl ?_);rintro _ _ _ ⟨b5, hb5, rfl, rfl, rfl⟩;refine ⟨zNl, ?_⟩;refine WH.one (i := 13) zk (WHo.so rfl (SO.store 0 rfl SzF.h rfl rfl rfl rfl (zqb rfl) (za rfl)) rfl ?_);rintro _ _ _ ⟨rfl, rfl, rfl⟩;refine ⟨zNl, ?_⟩;refine g [[1014]] ?_;refine WH.nil zk (g [[2],[4,6,5,4]] ?_);refine WL.part 20 rfl (fun g20 => ?_) (fun g20 => ?_)
      · try simp only [zq] at g20
        refine WL.cl rfl (fun w hI => zB _ _) (g [[3],[4,5,4]] ?_);refine WL.so (SO.buildSlice1 UnF.h SzF.h ZvF.h rfl rfl rfl (vs := [_, _]) rfl rfl rfl) rfl ?_;rintro _ _ _ ⟨b26, hb26, rfl, rfl, rfl⟩;refine WL.freezeN 0 b26 (.cells (List.toArray ([Pt.s zz, Pt.sp (zf (zE x d) (gt ls 0) (gt ls 1)).1.lo (zf (zE x d) (gt ls 0) (gt ls 1)).1.hi].flatMap ptI ++ [])) 20 (0, 0)) rfl rfl hb26 (fun D9 hX9 h26 => ?_);refine WL.cl rfl (fun w hI => xK [Pt.s zz, Pt.sp (zf (zE x d) (gt ls 0) (gt ls 1)).1.lo (zf (zE x d) (gt ls 0) (gt ls 1)).1.hi] (some ⟨b26, 0, none⟩) 2 2 D9 (hL.ext hX9) (SlL.ofBlock yu h26) (by decide) (by intro p hp; simp only [List.mem_cons, List.not_mem_nil, or_false] at hp; rcases hp with rfl | rfl; exact (show List.length _ ≤ 100 by decide); exact (by have := qE hdo.tide (gt ls 0) (gt ls 1); exact ⟨by unfold i64B; omega, by unfold i64B; omega⟩)) _ hI.imm) (g [[4]] ?_);refine WP.ret1 rfl rfl rfl (RV.tmp rfl) (fun w1 hI => u3 (by assumption) (jk _ _ _) hI.keep)
      try simp only [zq] at g20
      refine WL.nf rfl (fun w hI => zy _ _) (g [[1]] ?_);exact WP.panicBody rfl (fun w1 hI => u2 (by assumption) rfl hI.keep)
    refine WHo.so rfl (SO.alloc ZvF.h rfl) rfl ?_;rintro _ _ _ ⟨b5, hb5, rfl, rfl, rfl⟩;refine ⟨zNl, ?_⟩;refine WH.one (i := 8) zk (WHo.so rfl (SO.callP CaF.h rfl (fun w hI => k7 (zE x d) m.a s.a l.a _ _ _ m.c s.c l.c Dx _ (wK hW hd) hI.imm hL (gt ls 0) (gt ls 1))) rfl (zs ⟨zNl, ?_⟩));refine g [[1009],[1010],[1011]] ?_;refine WH.one (i := 13) zk (WHo.so rfl (SO.store 0 rfl SzF.h rfl rfl rfl rfl (zqb rfl) (za rfl)) rfl ?_);rintro _ _ _ ⟨rfl, rfl, rfl⟩;refine ⟨zNl, ?_⟩;refine g [[1014]] ?_;refine WH.nil zk (g [[2],[4,6,5,4]] ?_);refine WL.part 20 rfl (fun g20 => ?_) (fun g20 => ?_)
    · try simp only [zq] at g20
      refine WL.cl rfl (fun w hI => zB _ _) (g [[3],[4,5,4]] ?_);refine WL.so (SO.buildSlice1 UnF.h SzF.h ZvF.h rfl rfl rfl (vs := [_, _]) rfl rfl rfl) rfl ?_;rintro _ _ _ ⟨b26, hb26, rfl, rfl, rfl⟩;refine WL.freezeN 0 b26 (.cells (List.toArray ([Pt.s zz, Pt.sp (zf (zE x d) (gt ls 0) (gt ls 1)).1.lo (zf (zE x d) (gt ls 0) (gt ls 1)).1.hi].flatMap ptI ++ [])) 20 (0, 0)) rfl rfl hb26 (fun D9 hX9 h26 => ?_);refine WL.cl rfl (fun w hI => xK [Pt.s zz, Pt.sp (zf (zE x d) (gt ls 0) (gt ls 1)).1.lo (zf (zE x d) (gt ls 0) (gt ls 1)).1.hi] (some ⟨b26, 0, none⟩) 2 2 D9 (hL.ext hX9) (SlL.ofBlock yu h26) (by decide) (by intro p hp; simp only [List.mem_cons, List.not_mem_nil, or_false] at hp; rcases hp with rfl | rfl; exact (show List.length _ ≤ 100 by decide); exact (by have := qE hdo.tide (gt ls 0) (gt ls 1); exact ⟨by unfold i64B; omega, by unfold i64B; omega⟩)) _ hI.imm) (g [[4]] ?_);refine WP.ret1 rfl rfl rfl (RV.tmp rfl) (fun w1 hI => u3 (by assumption) (jk _ _ _) hI.keep)
    try simp only [zq] at g20
    refine WL.nf rfl (fun w hI => zy _ _) (g [[1]] ?_);exact WP.panicBody rfl (fun w1 hI => u2 (by assumption) rfl hI.keep)
  refine WHo.so rfl (SO.alloc ZvF.h rfl) rfl ?_;rintro _ _ _ ⟨b5, hb5, rfl, rfl, rfl⟩;refine ⟨zNl, ?_⟩;refine WH.one (i := 1) zk (WHo.so rfl (SO.callP CaF.h rfl (fun w hI => jo x m s t l b xb _ (hI.imm _ _ hxD))) rfl (zs ⟨zNl, ?_⟩));refine WH.one (i := 8) zk (WHo.so rfl (SO.callP CaF.h rfl (fun w hI => k7 (zE x d) m.a s.a l.a _ _ _ m.c s.c l.c Dx _ (wK hW hd) hI.imm hL (gt ls 0) (gt ls 1))) rfl (zs ⟨zNl, ?_⟩));refine g [[1009],[1010],[1011]] ?_;refine WH.one (i := 13) zk (WHo.so rfl (SO.store 0 rfl SzF.h rfl rfl rfl rfl (zqb rfl) (za rfl)) rfl ?_);rintro _ _ _ ⟨rfl, rfl, rfl⟩;refine ⟨zNl, ?_⟩;refine g [[1014]] ?_;refine WH.nil zk (g [[2],[4,6,5,4]] ?_);refine WL.part 20 rfl (fun g20 => ?_) (fun g20 => ?_)
  · try simp only [zq] at g20
    refine WL.cl rfl (fun w hI => zB _ _) (g [[3],[4,5,4]] ?_);refine WL.so (SO.buildSlice1 UnF.h SzF.h ZvF.h rfl rfl rfl (vs := [_, _]) rfl rfl rfl) rfl ?_;rintro _ _ _ ⟨b26, hb26, rfl, rfl, rfl⟩;refine WL.freezeN 0 b26 (.cells (List.toArray ([Pt.s zz, Pt.sp (zf (zE x d) (gt ls 0) (gt ls 1)).1.lo (zf (zE x d) (gt ls 0) (gt ls 1)).1.hi].flatMap ptI ++ [])) 20 (0, 0)) rfl rfl hb26 (fun D9 hX9 h26 => ?_);refine WL.cl rfl (fun w hI => xK [Pt.s zz, Pt.sp (zf (zE x d) (gt ls 0) (gt ls 1)).1.lo (zf (zE x d) (gt ls 0) (gt ls 1)).1.hi] (some ⟨b26, 0, none⟩) 2 2 D9 (hL.ext hX9) (SlL.ofBlock yu h26) (by decide) (by intro p hp; simp only [List.mem_cons, List.not_mem_nil, or_false] at hp; rcases hp with rfl | rfl; exact (show List.length _ ≤ 100 by decide); exact (by have := qE hdo.tide (gt ls 0) (gt ls 1); exact ⟨by unfold i64B; omega, by unfold i64B; omega⟩)) _ hI.imm) (g [[4]] ?_);refine WP.ret1 rfl rfl rfl (RV.tmp rfl) (fun w1 hI => u3 (by assumption) (jk _ _ _) hI.keep)
  try simp only [zq] at g20
  refine WL.nf rfl (fun w hI => zy _ _) (g [[1]] ?_);exact WP.panicBody rfl (fun w1 hI => u2 (by assumption) rfl hI.keep)
end
theorem XZ {f : Nat → Int} : ∀ n : Nat, (∀ i, i < n → -2400 ≤ f i ∧ f i ≤ 2400) → -2400 * (n : Int) ≤ ((List.range n).map f).sum ∧ ((List.range n).map f).sum ≤ 2400 * (n : Int)
  | 0, _ => by simp
  | n + 1, h => by
    have h1 := XZ n fun i hi => h i (by omega);have h2 := h n (by omega);rw [List.range_succ, List.map_append, List.sum_append];simp only [List.map_cons, List.map_nil, List.sum_cons, List.sum_nil, Int.add_zero];push_cast; omega
theorem zdb {X : Till} {l : List Ent} (hl : l.length ≤ 1000) : i64B (yh X l).1 := by
  unfold yh;split
  · unfold i64B; simp
  rename_i h0
  split
  · unfold i64B; simp
  rename_i hb
  have hE : yq X l true = 0 := by
    unfold uQ at h0;by_cases h : yq X l true = 0
    · exact h
    rw [if_pos h] at h0; exact absurd h h0
  have hnil : yH X l l.length = [] := by simpa using hb
  have := XZ (f := fun i => ja (gt l i)) l.length fun i hi => by
    have := Vu (vo hE).1 (ZX (Xa hnil i hi));unfold ja; split <;> omega
  unfold i64B; dsimp only; omega
theorem X7 {D : Imm} {d : Day} {t l b : Sl} (h : DayR D d t l b) : xL D d.book b.a b.n := ⟨h.book, h.len.2.2⟩
theorem zdh (q : Bs) : q9 [.s q] = q := Lib.join_one _ _
section
variable (x : Wick) (d : Day) (m s t l b : Sl) (xb : Nat) (D : Imm) (w : World) (hw : zS x = true) (hdo : zT x d) (hW : yG D x m s) (hd : DayR D d t l b) (hL : LibW D) (hH : Holds D w) (hxn : D xb = none) (hx : w.heap[xb]? = some (womO x m s t l b)) (ls : List Int) (al : Option Addr) (nl cl : Nat) (hls : SlL D 1 (ls.map intC) al nl) (hnl : ls.length = 0) (hll : nl ≤ 1000)
include x d m s t l b xb D w hw hdo hW hd hL hH hxn hx ls al nl cl hls hnl hll
theorem za3 : Calls Tryz.prog 158 (List.toArray [pt xb, .slice al nl cl]) w fun e w' => AskK w (doD x d yp ls) e w' := by
  have hXx : DExt { w with heap := #[] } D (D.add xb (womO x m s t l b)) := ⟨xD hxn, fun b h => by simp at h⟩;replace hW := hW.ext hXx;replace hd := hd.ext hXx;replace hL := hL.ext hXx;replace hls := hls.ext hXx;have hxD := Imm.add_self D xb (womO x m s t l b);have hHx := Holds.add hH hx;generalize D.add xb (womO x m s t l b) = Dx at hW hd hL hls hxD hHx;obtain rfl := hls.len';rw [ki];have hck := Xe hw hdo;refine en Tryz.func158 rfl Tryz.ntmps158 (Inv.start hHx) (g [[1],[5,0],[0,4,0]] ?_);refine WC.drawO [] (pz [1,5,7,9,11,13,2,14,17,19,21,23,25,27,29]) zk zk zX zNl (g [[6]] ?_);refine WA.so rfl (SO.callP CaF.h rfl (fun w hI => X3 x m s t l b xb _ (hI.imm _ _ hxD))) rfl (zs ⟨zNl, ?_⟩);refine WA.so rfl (SO.callP CaF.h rfl (fun w hI => V5 (zD x d) t.a t.n t.c Dx _ (wM hd) hI.imm d.book b.a b.n b.c (X7 hd))) rfl (zs ⟨zNl, ?_⟩);refine g [[11],[5,7,6,5,4]] ?_;refine WC.cond rfl (fun c21 => ?_) (fun c21 => ?_)
  · try simp only [zq] at c21
    refine g [[1],[2,7,6,5,4]] ?_;refine WL.so (SO.buildSlice1 UnF.h SzF.h ZvF.h rfl rfl rfl (vs := [_]) rfl rfl rfl) rfl ?_;rintro _ _ _ ⟨b23, hb23, rfl, rfl, rfl⟩;refine WL.freezeN 0 b23 (.cells (List.toArray ([Pt.s yp].flatMap ptI ++ [])) 20 (0, 0)) rfl rfl hb23 (fun D9 hX9 h23 => ?_);refine WL.cl rfl (fun w hI => xK [Pt.s yp] (some ⟨b23, 0, none⟩) 1 1 D9 (hL.ext hX9) (SlL.ofBlock yu h23) (by decide) (by intro p hp; simp only [List.mem_cons, List.not_mem_nil, or_false] at hp; subst hp; exact (show List.length _ ≤ 100 by decide)) _ hI.imm) (g [[5]] ?_);refine WP.ret1 rfl rfl rfl (RV.tmp rfl) (fun w1 hI => by rw [if_pos (by assumption)]; exact ⟨hI.keep, .inl ⟨rfl, by rw [zdh]⟩⟩)
  try simp only [zq] at c21
  refine g [[3],[4,7,6,5,4]] ?_;refine WL.part 26 rfl (fun g26 => ?_) (fun g26 => ?_)
  · try simp only [zq] at g26
    refine WL.cl rfl (fun w hI => zB _ _) (g [[3],[6,6,5,4]] ?_);refine WL.so (SO.buildSlice1 UnF.h SzF.h ZvF.h rfl rfl rfl (vs := [_, _, _]) rfl rfl rfl) rfl ?_;rintro _ _ _ ⟨b34, hb34, rfl, rfl, rfl⟩;refine WL.freezeN 0 b34 (.cells (List.toArray ([Pt.s yp, Pt.n (zh (zD x d) d.book).1, Pt.n (zh (zD x d) d.book).2.1].flatMap ptI ++ [])) 20 (0, 0)) rfl rfl hb34 (fun D9 hX9 h34 => ?_);refine WL.cl rfl (fun w hI => xK [Pt.s yp, Pt.n (zh (zD x d) d.book).1, Pt.n (zh (zD x d) d.book).2.1] (some ⟨b34, 0, none⟩) 3 3 D9 (hL.ext hX9) (SlL.ofBlock yu h34) (by decide) (by intro p hp; simp only [List.mem_cons, List.not_mem_nil, or_false] at hp; rcases hp with rfl | rfl | rfl; exact (show List.length _ ≤ 100 by decide); exact (by rcases hck with h | h | h <;> first | (unfold ptB; unfold i64B; omega) | (exfalso; omega)); exact (by rcases hck with h | h | h <;> first | (unfold ptB; unfold i64B; omega) | (exfalso; omega))) _ hI.imm) (g [[4]] ?_);refine WP.ret1 rfl rfl rfl (RV.tmp rfl) (fun w1 hI => by rw [if_neg (by assumption)]; exact u3 (by assumption) (xa _ [_, _]) hI.keep)
  try simp only [zq] at g26
  refine WL.nf rfl (fun w hI => zy _ _) (g [[1]] ?_);refine WP.panicBody rfl (fun w1 hI => ?_);rw [if_neg (by assumption)];exact u2 (by assumption) rfl hI.keep
theorem zda : Calls Tryz.prog 159 (List.toArray [pt xb, .slice al nl cl]) w fun e w' => AskK w (doD x d sumS ls) e w' := by
  have hXx : DExt { w with heap := #[] } D (D.add xb (womO x m s t l b)) := ⟨xD hxn, fun b h => by simp at h⟩;replace hW := hW.ext hXx;replace hd := hd.ext hXx;replace hL := hL.ext hXx;replace hls := hls.ext hXx;have hxD := Imm.add_self D xb (womO x m s t l b);have hHx := Holds.add hH hx;generalize D.add xb (womO x m s t l b) = Dx at hW hd hL hls hxD hHx;obtain rfl := hls.len';rw [Xg];refine en Tryz.func159 rfl Tryz.ntmps159 (Inv.start hHx) (g [[1],[5,0],[0,4,0]] ?_);refine WC.drawO [] (pz [1,5,7,9,11,13,2,14,17,19,21,23,25]) zk zk zX zNl (g [[6]] ?_);refine WA.so rfl (SO.callP CaF.h rfl (fun w hI => X3 x m s t l b xb _ (hI.imm _ _ hxD))) rfl (zs ⟨zNl, ?_⟩);refine WA.so rfl (SO.callP CaF.h rfl (fun w hI => zc5 (zD x d) t.a t.n t.c Dx _ (wM hd) hI.imm d.book b.a b.n b.c (X7 hd))) rfl (zs ⟨zNl, ?_⟩);refine g [[8],[4,6,5,4]] ?_;refine WL.part 19 rfl (fun g19 => ?_) (fun g19 => ?_)
  · try simp only [zq] at g19
    refine WL.cl rfl (fun w hI => zB _ _) (g [[3],[4,5,4]] ?_);refine WL.so (SO.buildSlice1 UnF.h SzF.h ZvF.h rfl rfl rfl (vs := [_, _]) rfl rfl rfl) rfl ?_;rintro _ _ _ ⟨b25, hb25, rfl, rfl, rfl⟩;refine WL.freezeN 0 b25 (.cells (List.toArray ([Pt.s sumS, Pt.n (yh (zD x d) d.book).1].flatMap ptI ++ [])) 20 (0, 0)) rfl rfl hb25 (fun D9 hX9 h25 => ?_);refine WL.cl rfl (fun w hI => xK [Pt.s sumS, Pt.n (yh (zD x d) d.book).1] (some ⟨b25, 0, none⟩) 2 2 D9 (hL.ext hX9) (SlL.ofBlock yu h25) (by decide) (by intro p hp; simp only [List.mem_cons, List.not_mem_nil, or_false] at hp; rcases hp with rfl | rfl; exact (show List.length _ ≤ 100 by decide); exact (zdb (by have := wx hdo; omega))) _ hI.imm) (g [[4]] ?_);refine WP.ret1 rfl rfl rfl (RV.tmp rfl) (fun w1 hI => u3 (by assumption) (xa _ [_]) hI.keep)
  try simp only [zq] at g19
  refine WL.nf rfl (fun w hI => zy _ _) (g [[1]] ?_);exact WP.panicBody rfl (fun w1 hI => u2 (by assumption) rfl hI.keep)
end
theorem SA41 : zj Tryz.prog 41 [.int .i64 0, .int .i64 0, .int .i64 0, .int .i64 0, .int .i64 0] [(0, 2), (2, 1), (3, 2)] := ⟨⟨_, Tryz.zeroValue41, rfl⟩, _, Tryz.underlying41, fun w => by simp [Tryz.sizeOf3, Tryz.sizeOf39]⟩
abbrev zdx := SaF.mk SA41
attribute [instance] zdx
theorem SA44 : zj Tryz.prog 44 [.int .i64 0, .int .i64 0, .int .i64 0, .int .i64 0] [(0, 1), (1, 1), (2, 2)] := ⟨⟨_, Tryz.zeroValue44, rfl⟩, _, Tryz.underlying44, fun w => by simp [Tryz.sizeOf3, Tryz.sizeOf39]⟩
abbrev zdy := SaF.mk SA44
attribute [instance] zdy
def PutK (x : Wick) (m s : Sl) (xb : Nat) (r : Rep) (v : Value) (D' : Imm) (hp' : Hp) : Prop := r.2.2 = 0 ∧ v = st r.2.1 ∧ ∃ t' l' b', hp' = [(xb, womO x m s t' l' b')] ∧ DayR D' r.1 t' l' b'
def PutC (x : Wick) (m s t l b : Sl) (xb : Nat) (r : Rep) (ch : List PanicEntry) (_ : Imm) (hp' : Hp) : Prop := r.2.2 ≠ 0 ∧ ch = jA r.2.2 ∧ hp' = [(xb, womO x m s t l b)]
theorem Qe {T : Tks} : (zu T (-1)).2 = if tksB T = true then 2 else 1 := by
  have h0 : isT T (-1) = false := by unfold isT; simp
  unfold zu tksE;rw [h0];cases tksB T <;> simp
theorem uM (x : Wick) (d : Day) (X : Tick) : jy x d X = if 5 ≤ d.tks.length then errD d 9 else if tksB ⟨x.huts, d.tks ++ [X]⟩ = false then errD d 2 else ({ d with tks := d.tks ++ [X] }, repL zo [(d.tks.length : Int)], 0) := rfl
theorem uH (x : Wick) (d : Day) (X : Look) : jw x d X = if 6 ≤ d.looks.length then errD d 9 else if zQ ⟨x.marks, x.sand, d.looks ++ [X]⟩ = false then errD d 2 else ({ d with looks := d.looks ++ [X] }, repL yk [(d.looks.length : Int)], 0) := rfl
section
variable {x : Wick} {m s t l b : Sl} {xb : Nat} {a : Option Addr} {c : Nat}
include x m s t l b xb a c
theorem zdo {X : Tick} {L : List Tick} : ([(xb, .cells (splice (womC x m s t l b) (0 + 6 + 0) [.slice a (L ++ [X]).length c]).toArray 99 (0, 0))] : Hp) = [(xb, womO x m s ⟨a, L.length + 1, c⟩ l b)] := by
  rw [List.length_append]; rfl
theorem zdn {X : Look} {L : List Look} : ([(xb, .cells (splice (womC x m s t l b) (0 + 6 + 1) [.slice a (L ++ [X]).length c]).toArray 99 (0, 0))] : Hp) = [(xb, womO x m s t ⟨a, L.length + 1, c⟩ b)] := by
  rw [List.length_append]; rfl
theorem Wg {X : Ent} {L : List Ent} : ([(xb, .cells (splice (womC x m s t l b) (0 + 6 + 2) [.slice a (L ++ [X]).length c]).toArray 99 (0, 0))] : Hp) = [(xb, womO x m s t l ⟨a, L.length + 1, c⟩)] := by
  rw [List.length_append]; rfl
end
theorem KB {D : Imm} {d : Day} {t l b : Sl} {X : Tick} {a : Option Addr} {c : Nat} (h : DayR D d t l b) (hS : SlL D 5 ((d.tks ++ [X]).map yc) a (d.tks ++ [X]).length) (hc : (d.tks ++ [X]).length ≤ c) (h5 : d.tks.length ≤ 5) : DayR D { d with tks := d.tks ++ [X] } ⟨a, d.tks.length + 1, c⟩ l b := by
  rw [List.length_append] at hS hc;exact ⟨hS, h.looks, h.book, ⟨by show d.tks.length + 1 ≤ 1000; omega, h.len.2⟩, ⟨hc, h.cap.2⟩⟩
theorem Kw {D : Imm} {d : Day} {t l b : Sl} {X : Look} {a : Option Addr} {c : Nat} (h : DayR D d t l b) (hS : SlL D 4 ((d.looks ++ [X]).map ym) a (d.looks ++ [X]).length) (hc : (d.looks ++ [X]).length ≤ c) (h5 : d.looks.length ≤ 6) : DayR D { d with looks := d.looks ++ [X] } t ⟨a, d.looks.length + 1, c⟩ b := by
  rw [List.length_append] at hS hc;exact ⟨h.tks, hS, h.book, ⟨h.len.1, by show d.looks.length + 1 ≤ 1000; omega, h.len.2.2⟩, ⟨h.cap.1, hc, h.cap.2.2⟩⟩
section
variable (x : Wick) (d : Day) (m s t l b : Sl) (xb : Nat) (D : Imm) (w : World) (hw : zS x = true) (hdo : zT x d) (hW : yG D x m s) (hd : DayR D d t l b) (hL : LibW D) (ls : List Int) (al : Option Addr) (nl cl : Nat) (hls : SlL D 1 (ls.map intC) al nl)
include x d m s t l b xb D w hw hdo hW hd hL ls al nl cl hls
theorem zba (hnl : ls.length = 5) (hll : nl ≤ 1000) (hI0 : Inv D [(xb, womO x m s t l b)] [xb] w w) : yl Tryz.prog 151 [pt xb, .slice al nl cl] w D [xb] (PutK x m s xb (doD x d zo ls)) (PutC x m s t l b xb (doD x d zo ls)) := by
  unfold yl;obtain rfl := hls.len';have htl := hd.tks.len';have htl2 := hd.len.1;have htn : t.n = d.tks.length := htl;rw [qF];refine en Tryz.func151 rfl Tryz.ntmps151 hI0 (g [[1],[5,0,1],[11,4,0,1],[3,5,4,0,1]] ?_);refine WL.part 16 rfl (fun g16 => ?_) (fun g16 => ?_)
  · try simp only [zq] at g16
    refine WL.cl rfl (fun w hI => zB _ _) (g [[3],[2,5,4,0,1]] ?_);refine WL.cl rfl (fun w hI => Ya x m s t l b xb _ (hI.own _ _ (List.mem_of_getElem? (i := 0) rfl))) ?_;refine WL.so (SO.alloc ZvF.h rfl) rfl (zw fun b6 hb6 => ?_);refine g [[4],[0,6,5,4,0,1]] ?_;refine WC.drawO [] (pz [1,5,7,9,11,13,15,17,19,21,23,25,27,29,31,33,35,37,39,2,40,43,44]) zk zk zX zNl (g [[2]] ?_);refine WA.yd rfl (Yd.ix rfl rfl (hls.addr 0 (by omega))) rfl (WA.yd rfl (Yd.l1 rfl ((hls.at 0 (by omega)).rd 0 rfl)) rfl (g [[1]] ?_));refine WA.yd rfl (Yd.ix rfl rfl (hls.addr 0 (by omega))) rfl (WA.yd rfl (Yd.l1 rfl ((hls.at 1 (by omega)).rd 0 rfl)) rfl (g [[2]] ?_));refine WA.yd rfl (Yd.ix rfl rfl (hls.addr 0 (by omega))) rfl (WA.yd rfl (Yd.l1 rfl ((hls.at 2 (by omega)).rd 0 rfl)) rfl (g [[1]] ?_));refine WA.yd rfl (Yd.ix rfl rfl (hls.addr 0 (by omega))) rfl (WA.yd rfl (Yd.l1 rfl ((hls.at 3 (by omega)).rd 0 rfl)) rfl (g [[1]] ?_));refine WA.yd rfl (Yd.ix rfl rfl (hls.addr 0 (by omega))) rfl (WA.yd rfl (Yd.l1 rfl ((hls.at 4 (by omega)).rd 0 rfl)) rfl (g [[2]] ?_));refine WA.so rfl (SO.ofYd (Yd.l1 rfl (Rd.own (k := 0) rfl rfl))) rfl (zs ⟨zNl, ?_⟩);refine WA.know 39 (.agg (List.toArray (yc (⟨⟨(gt ls 0), (gt ls 1)⟩, gt ls 2, ⟨gt ls 3, gt ls 4⟩⟩ : Tick)))) rfl rfl (WA.so rfl (SO.makes (Enters.func Tryz.call222 rfl) (fun w1 hI => Yz d.tks (⟨⟨(gt ls 0), (gt ls 1)⟩, gt ls 2, ⟨gt ls 3, gt ls 4⟩⟩ : Tick) t.a _ t.c D hd.tks hd.len.1 w1 hI.imm)) rfl ?_);rintro _ D2 _ ⟨hX2, ⟨a2, c2, rfl, hS2, hc2⟩, rfl⟩;replace hL := hL.ext hX2;have hd2 := hd.ext hX2;refine ⟨fun _ hI => hI.nil.shrink hX2.old, ?_⟩;refine g [[1]] ?_;refine WA.so rfl (SO.store 0 rfl SzF.h rfl rfl rfl rfl (zqb rfl) (za rfl)) rfl ?_;rintro _ _ _ ⟨rfl, rfl, rfl⟩;refine ⟨fun _ hI => hI.nil.shrink hX2.old, ?_⟩;refine g [[3],[2,6,5,4,0]] ?_;refine WL.cl rfl (fun w hI => Ze ⟨x.huts, d.tks ++ [(⟨⟨(gt ls 0), (gt ls 1)⟩, gt ls 2, ⟨gt ls 3, gt ls 4⟩⟩ : Tick)]⟩ a2 _ c2 D2 _ ⟨hS2, by rw [List.length_append]; show d.tks.length + 1 ≤ 1000; omega⟩ hI.imm (-1)) (g [[8],[3,8,6,5,4,0]] ?_);refine WL.part 48 rfl (fun g48 => ?_) (fun g48 => ?_)
    · try simp only [zq] at g48
      refine WL.cl rfl (fun w hI => zB _ _) (g [[3],[11,6,5,4,0],[4,5,4]] ?_);refine WL.so (SO.buildSlice1 UnF.h SzF.h ZvF.h rfl rfl rfl (vs := [_, _]) rfl rfl rfl) rfl ?_;rintro _ _ _ ⟨b59, hb59, rfl, rfl, rfl⟩;refine WL.freezeN 0 b59 (.cells (List.toArray ([Pt.s zo, Pt.n (t.n : Int)].flatMap ptI ++ [])) 20 (0, 0)) rfl rfl hb59 (fun D9 hX9 h59 => ?_);refine WL.cl rfl (fun w hI => xK [Pt.s zo, Pt.n (t.n : Int)] (some ⟨b59, 0, none⟩) 2 2 D9 (hL.ext hX9) (SlL.ofBlock yu h59) (by decide) (by intro p hp; simp only [List.mem_cons, List.not_mem_nil, or_false] at hp; rcases hp with rfl | rfl; exact (show List.length _ ≤ 100 by decide); exact (by unfold ptB; unfold i64B; omega)) _ hI.imm) (g [[4]] ?_);refine WP.ret1 rfl rfl rfl (RV.tmp rfl) (fun w1 hI => ⟨D9, [_], hX2.trans hX9 (Nat.le_refl _), hI.tail, .inl ⟨_, rfl, by rw [uM, if_neg (by omega), if_neg (by rw [Qe] at g48; revert g48; cases tksB ⟨x.huts, d.tks ++ [(⟨⟨(gt ls 0), (gt ls 1)⟩, gt ls 2, ⟨gt ls 3, gt ls 4⟩⟩ : Tick)]⟩ <;> simp)]; exact ⟨rfl, by rw [← htn, ← xa _ [_]]; rfl, ⟨a2, d.tks.length + 1, c2⟩, l, b, zdo, KB (hd2.ext hX9) (hS2.ext hX9) hc2 (by omega)⟩⟩⟩)
    try simp only [zq] at g48
    refine WL.nf rfl (fun w hI => zy _ _) (g [[1]] ?_);exact WP.panicBody rfl (fun w1 hI => ⟨D2, [_], hX2, hI.tail, .inr ⟨_, rfl, by rw [uM, if_neg (by omega), if_pos (by rw [Qe] at g48; revert g48; cases tksB ⟨x.huts, d.tks ++ [(⟨⟨(gt ls 0), (gt ls 1)⟩, gt ls 2, ⟨gt ls 3, gt ls 4⟩⟩ : Tick)]⟩ <;> simp)]; exact ⟨by simp [errD], rfl, rfl⟩⟩⟩)
  try simp only [zq] at g16
  refine WL.nf rfl (fun w hI => zy _ _) (g [[1]] ?_);exact WP.panicBody rfl (fun w1 hI => ⟨D, [_], DExt.refl _ _, hI, .inr ⟨_, rfl, by rw [uM, if_pos (by omega)]; exact ⟨by simp [errD], rfl, rfl⟩⟩⟩)
theorem zaH (hnl : ls.length = 4) (hll : nl ≤ 1000) (hI0 : Inv D [(xb, womO x m s t l b)] [xb] w w) : yl Tryz.prog 152 [pt xb, .slice al nl cl] w D [xb] (PutK x m s xb (doD x d yk ls)) (PutC x m s t l b xb (doD x d yk ls)) := by
  unfold yl;obtain rfl := hls.len';have htl := hd.looks.len';have htl2 := hd.len.2.1;have htn : l.n = d.looks.length := htl;rw [Ys];refine en Tryz.func152 rfl Tryz.ntmps152 hI0 (g [[1],[5,0,1],[11,4,0,1],[3,5,4,0,1]] ?_);refine WL.part 14 rfl (fun g14 => ?_) (fun g14 => ?_)
  · try simp only [zq] at g14
    refine WL.cl rfl (fun w hI => zB _ _) (g [[3],[2,5,4,0,1]] ?_);refine WL.cl rfl (fun w hI => jo x m s t l b xb _ (hI.own _ _ (List.mem_of_getElem? (i := 0) rfl))) ?_;refine WL.so (SO.alloc ZvF.h rfl) rfl (zw fun b6 hb6 => ?_);refine g [[4],[0,6,5,4,0,1]] ?_;refine WC.drawO [] (pz [1,5,7,9,11,13,15,17,19,21,23,25,27,29,31,2,32,35,36]) zk zk zX zNl (g [[2]] ?_);refine WA.yd rfl (Yd.ix rfl rfl (hls.addr 0 (by omega))) rfl (WA.yd rfl (Yd.l1 rfl ((hls.at 0 (by omega)).rd 0 rfl)) rfl (g [[1]] ?_));refine WA.yd rfl (Yd.ix rfl rfl (hls.addr 0 (by omega))) rfl (WA.yd rfl (Yd.l1 rfl ((hls.at 1 (by omega)).rd 0 rfl)) rfl (g [[1]] ?_));refine WA.yd rfl (Yd.ix rfl rfl (hls.addr 0 (by omega))) rfl (WA.yd rfl (Yd.l1 rfl ((hls.at 2 (by omega)).rd 0 rfl)) rfl (g [[1]] ?_));refine WA.yd rfl (Yd.ix rfl rfl (hls.addr 0 (by omega))) rfl (WA.yd rfl (Yd.l1 rfl ((hls.at 3 (by omega)).rd 0 rfl)) rfl (g [[2]] ?_));refine WA.so rfl (SO.ofYd (Yd.l1 rfl (Rd.own (k := 0) rfl rfl))) rfl (zs ⟨zNl, ?_⟩);refine WA.know 33 (.agg (List.toArray (ym (⟨(gt ls 0), (gt ls 1), ⟨gt ls 2, gt ls 3⟩⟩ : Look)))) rfl rfl (WA.so rfl (SO.makes (Enters.func Tryz.call224 rfl) (fun w1 hI => Yy d.looks (⟨(gt ls 0), (gt ls 1), ⟨gt ls 2, gt ls 3⟩⟩ : Look) l.a _ l.c D hd.looks hd.len.2.1 w1 hI.imm)) rfl ?_);rintro _ D2 _ ⟨hX2, ⟨a2, c2, rfl, hS2, hc2⟩, rfl⟩;replace hL := hL.ext hX2;have hd2 := hd.ext hX2;replace hW := hW.ext hX2;refine ⟨fun _ hI => hI.nil.shrink hX2.old, ?_⟩;refine g [[1]] ?_;refine WA.so rfl (SO.store 0 rfl SzF.h rfl rfl rfl rfl (zqb rfl) (za rfl)) rfl ?_;rintro _ _ _ ⟨rfl, rfl, rfl⟩;refine ⟨fun _ hI => hI.nil.shrink hX2.old, ?_⟩;refine g [[3],[3,6,5,4,0]] ?_;refine WL.cl rfl (fun w hI => Y9 _ ⟨x.marks, x.sand, d.looks ++ [(⟨(gt ls 0), (gt ls 1), ⟨gt ls 2, gt ls 3⟩⟩ : Look)]⟩ m.a s.a a2 _ _ _ m.c s.c c2 D2 _ ⟨hW.mark, hW.sand, hS2, hW.len.1, hW.len.2, by rw [List.length_append]; show d.looks.length + 1 ≤ 1000; omega⟩ hI.imm hL) ?_;refine WL.part 38 rfl (fun g38 => ?_) (fun g38 => ?_)
    · refine WL.cl rfl (fun w hI => zB _ _) (g [[3],[11,6,5,4,0],[4,5,4]] ?_);refine WL.so (SO.buildSlice1 UnF.h SzF.h ZvF.h rfl rfl rfl (vs := [_, _]) rfl rfl rfl) rfl ?_;rintro _ _ _ ⟨b49, hb49, rfl, rfl, rfl⟩;refine WL.freezeN 0 b49 (.cells (List.toArray ([Pt.s yk, Pt.n (l.n : Int)].flatMap ptI ++ [])) 20 (0, 0)) rfl rfl hb49 (fun D9 hX9 h49 => ?_);refine WL.cl rfl (fun w hI => xK [Pt.s yk, Pt.n (l.n : Int)] (some ⟨b49, 0, none⟩) 2 2 D9 (hL.ext hX9) (SlL.ofBlock yu h49) (by decide) (by intro p hp; simp only [List.mem_cons, List.not_mem_nil, or_false] at hp; rcases hp with rfl | rfl; exact (show List.length _ ≤ 100 by decide); exact (by unfold ptB; unfold i64B; omega)) _ hI.imm) (g [[4]] ?_);refine WP.ret1 rfl rfl rfl (RV.tmp rfl) (fun w1 hI => ⟨D9, [_], hX2.trans hX9 (Nat.le_refl _), hI.tail, .inl ⟨_, rfl, by rw [uH, if_neg (by omega), if_neg (by rw [g38]; simp)]; exact ⟨rfl, by rw [← htn, ← xa _ [_]]; rfl, t, ⟨a2, d.looks.length + 1, c2⟩, b, zdn, Kw (hd2.ext hX9) (hS2.ext hX9) hc2 (by omega)⟩⟩⟩)
    refine WL.nf rfl (fun w hI => zy _ _) (g [[1]] ?_);exact WP.panicBody rfl (fun w1 hI => ⟨D2, [_], hX2, hI.tail, .inr ⟨_, rfl, by rw [uH, if_neg (by omega), if_pos g38]; exact ⟨by simp [errD], rfl, rfl⟩⟩⟩)
  try simp only [zq] at g14
  refine WL.nf rfl (fun w hI => zy _ _) (g [[1]] ?_);exact WP.panicBody rfl (fun w1 hI => ⟨D, [_], DExt.refl _ _, hI, .inr ⟨_, rfl, by rw [uH, if_pos (by omega)]; exact ⟨by simp [errD], rfl, rfl⟩⟩⟩)
end
def ofT (d : Day) (n : Int) : List Ent := d.book.filter fun e => decide (e.ticket = n)
def ofN (d : Day) (n : Int) (k : Nat) : Nat := ((d.book.take k).filter fun e => decide (e.ticket = n)).length
def entV (e : Ent) : Value := .agg (entC e).toArray
theorem qH {α : Type} [Inhabited α] (p : α → Bool) {l : List α} {k : Nat} (hk : k < l.length) : (l.take (k + 1)).filter p = (l.take k).filter p ++ if p (gt l k) then [gt l k] else [] := by
  rw [zP hk, List.filter_append];congr 1;generalize gt l k = y;cases h : p y <;> simp [h]
section
variable {d : Day} {n : Int} {k : Nat} (hk : k < d.book.length)
include d n k hk
theorem zcJ (h : (gt d.book k).ticket = n) : ofN d n (k + 1) = ofN d n k + 1 ∧ ofN d n k < (ofT d n).length ∧ gt (ofT d n) (ofN d n k) = gt d.book k := by
  have h1 := qH (fun e => decide (e.ticket = n)) hk;rw [if_pos (decide_eq_true h)] at h1
  have h2 : ofT d n = (d.book.take (k + 1)).filter (fun e => decide (e.ticket = n)) ++ (d.book.drop (k + 1)).filter (fun e => decide (e.ticket = n)) := by
    unfold ofT; rw [← List.filter_append, List.take_append_drop]
  refine ⟨by unfold ofN; rw [h1]; simp, ?_, ?_⟩
  · rw [h2, h1]; simp only [ofN, List.length_append, List.length_cons, List.length_nil]; omega
  rw [h2, h1]; unfold ofN; simp [gt, List.getD]
theorem zle (h : ¬ (gt d.book k).ticket = n) : ofN d n (k + 1) = ofN d n k := by
  have h1 := qH (fun e => decide (e.ticket = n)) hk;rw [if_neg (by simpa using h)] at h1;unfold ofN; rw [h1]; simp
end
theorem zaM (d : Day) (n : Int) : ofN d n d.book.length = (ofT d n).length := by unfold ofN ofT; rw [List.take_length]
theorem kG (x : Wick) (d : Day) (m s t l b : Sl) (xb : Nat) (n : Int) (bx bn : Nat) (D : Imm) (hxD : D xb = some (womO x m s t l b)) (hd : DayR D d t l b) (h1 : D bx = some (.cells (List.toArray [pt xb]) 50 (0, 0))) (h2 : D bn = some (.cells (List.toArray [it n]) 3 (0, 0))) (w : World) : zc2 Tryz.prog 273 [pt bx, pt bn] (ofT d n).length (fun k => entV (gt (ofT d n) k)) D [] w := by
  intro ly St C hm hround h0 hS0 hI;have hb := hd.book;have hbn : b.n = d.book.length := hb.len';have hbl := hd.len.2.2;unfold V4;refine en Tryz.func273 rfl Tryz.ntmps273 hI (g [[1],[11,0,1,2]] ?_);refine WC.loop (fun y : Nat × Imm × Hp => [(0, .func (.yield ly) #[] #[]), (2, pt bn), (10, .slice b.a b.n b.c), (11, nt b.n), (12, nt y.1)]) (fun y => y.2.2) (fun y => y.2.1) (fun y => y.1 ≤ d.book.length ∧ DExt w D y.2.1 ∧ St (ofN d n y.1) y.2.1 y.2.2) (fun y => d.book.length - y.1) ⟨0, D, h0⟩ ⟨by omega, DExt.refl _ _, hS0⟩ (fun a w h => y4 h ⟨rfl, rfl, rfl, rfl, rfl, trivial⟩) ?_;rintro ⟨k, D1, h1⟩ ⟨hk, hX1, hS1⟩;dsimp only at hk hX1 hS1;refine g [[1],[5,0,2,10,11,12]] ?_;refine WC.cond rfl (fun c13 => ?_) (fun c13 => ?_)
  · try simp only [zq] at c13
    have hkl : k < d.book.length := by omega
    refine g [[5],[1,0,2,10,11,12]] ?_;refine WL.yd (Yd.ix rfl rfl ((hb.ext hX1).addr k (by omega))) rfl (WL.yd (Yd.lV [_, _, _] rfl (((hb.ext hX1).at k (by omega)).rdn 0 3 rfl)) rfl ?_);refine WL.so (SO.alloc ZvF.h rfl) rfl (zw fun b5 hb5 => ?_);refine g [[4],[0,5,0,2,10,11,12]] ?_;refine WC.ofF (g [[3]] ?_);refine WLF.yd (zn rfl) (Yd.l1 rfl (Rd.imm (hX1.old _ _ h2) rfl)) rfl (g [[2]] ?_);refine WLF.part 20 rfl (fun g20 => ?_) (fun g20 => ?_)
    · try simp only [zq] at g20
      refine g [[2]] ?_
      first | (obtain ⟨ho1, ho2, ho3⟩ := zcJ hkl g20; refine WLF.know 22 (entV (gt d.book k)) rfl rfl ?_) | skip
      refine WLF.yieldPg [(b5, _)] h1 (fun _ h => h) (fun h => h) rfl rfl rfl rfl (fun w' hsz' hI' => by have h9 := hround (ofN d n k) D1 h1 w' ho2 hsz' hX1 hS1 hI'; dsimp only at h9; rw [ho3] at h9; exact h9) ?_ ?_
      · intro D2 h2 hS2 hX2;refine g [[8],[4,0,2,10,11,12]] ?_;exact WP.again (⟨k + 1, D2, h2⟩ : Nat × Imm × Hp) ⟨by simp only; omega, hX1.trans hX2 (Nat.le_refl _), by simp only; rw [ho1]; exact hS2⟩ (by simp only; omega) (fun aa ww h => zL 1 h ⟨rfl, rfl, rfl, rfl, rfl, trivial⟩ (List.Perm.refl _))
      intro ch D2 h2 hC hX2;refine g [[5]] ?_;exact WP.panicBody rfl (fun w1 hI => ⟨D2, h2, hX1.trans hX2 (Nat.le_refl _), hI.tail, .inr ⟨_, rfl, hC⟩⟩)
    try simp only [zq] at g20
    refine g [[2]] ?_
    first | (obtain ⟨ho1, ho2, ho3⟩ := zcJ hkl g20; refine WLF.know 22 (entV (gt d.book k)) rfl rfl ?_) | skip
    refine g [[9],[4,0,2,10,11,12]] ?_;exact WP.again (⟨k + 1, D1, h1⟩ : Nat × Imm × Hp) ⟨by simp only; omega, hX1, by simp only; rw [zle hkl g20]; exact hS1⟩ (by simp only; omega) (fun aa ww h => zL 1 h ⟨rfl, rfl, rfl, rfl, rfl, trivial⟩ (List.Perm.refl _))
  try simp only [zq] at c13
  obtain rfl : k = d.book.length := by omega
  refine g [[4]] ?_;refine WP.ret0 rfl rfl rfl  (fun w1 hI => ⟨D1, h1, hX1, hI, .inl ⟨_, rfl, by rw [← zaM]; exact hS1⟩⟩)
theorem SA46 : zj Tryz.prog 46 [.int .i64 0, .int .i64 0, .int .i64 0] [(0, 1), (1, 1), (2, 1)] := ⟨⟨_, Tryz.zeroValue46, rfl⟩, _, Tryz.underlying46, fun w => by simp [Tryz.sizeOf3]⟩
abbrev zdz := SaF.mk SA46
attribute [instance] zdz
theorem Zk (d : Day) (n k : Int) : zM d.book n k = (ofT d n).any fun e => decide (e.kind = k) := by
  unfold zM ofT;rw [List.any_filter];congr 1;funext e;by_cases h1 : e.ticket = n <;> by_cases h2 : e.kind = k <;> simp [h1, h2]
theorem qe {d : Day} {n k : Int} {j : Nat} (hj : j < (ofT d n).length) (h : (gt (ofT d n) j).kind = k) : zM d.book n k = true := by
  rw [Zk]; exact List.any_eq_true.2 ⟨_, gt_mem' hj, decide_eq_true h⟩
theorem qd {d : Day} {n k : Int} (h : ∀ j, j < (ofT d n).length → ¬ (gt (ofT d n) j).kind = k) : zM d.book n k = false := by
  rw [Zk, List.any_eq_false];intro e he;obtain ⟨i, hi, rfl⟩ := List.getElem_of_mem he;have := h i hi;rw [show gt (ofT d n) i = (ofT d n)[i] by simp [gt, List.getD, hi]] at this;simpa using this
theorem yA (d : Day) (X : Ent) : xX d X = if (d.tks.length : Int) ≤ X.ticket then errD d 2 else if zM d.book X.ticket X.kind = true then errD d 5 else ({ d with book := d.book ++ [X] }, repL uJ [(d.book.length : Int)], 0) := rfl
theorem X8 {D : Imm} {d : Day} {t l b : Sl} {X : Ent} {a : Option Addr} {c : Nat} (h : DayR D d t l b) (hS : SlL D 3 ((d.book ++ [X]).map entC) a (d.book ++ [X]).length) (hc : (d.book ++ [X]).length ≤ c) (h5 : d.book.length ≤ 15) : DayR D { d with book := d.book ++ [X] } t l ⟨a, d.book.length + 1, c⟩ := by
  rw [List.length_append] at hS hc;exact ⟨h.tks, h.looks, hS, ⟨h.len.1, h.len.2.1, by show d.book.length + 1 ≤ 1000; omega⟩, ⟨h.cap.1, h.cap.2.1, hc⟩⟩
section
variable (x : Wick) (m s : Sl) (ls : List Int) (al : Option Addr) (nl cl : Nat) (D : Imm) (hls : SlL D 1 (ls.map intC) al nl)
include x m s ls al nl cl D hls
theorem Kl (hnl : ls.length = 1) (w : World) (hH : Holds D w) (kd : Int) : z8 Tryz.prog 339 [.agg #[it kd], (yL x m s), .slice al nl cl] w (entV (⟨(gt ls 0), kd, if kd = 2 then x.fine else x.price⟩ : Ent)) := by
  unfold z8;obtain rfl := hls.len';refine en Tryz.func339 rfl Tryz.ntmps339 (Inv.start hH) (g [[1],[1,0,1,2]] ?_);refine WL.so (SO.box rfl rfl) rfl (zw fun b3 hb3 => ?_);refine WL.so (SO.box rfl rfl) rfl (zw fun b4 hb4 => ?_);refine WL.so (SO.alloc ZvF.h rfl) rfl (zw fun b6 hb6 => ?_);refine g [[3],[8,6,4,3,2],[6,7,6,4,3,2]] ?_;refine WC.cond rfl (fun c12 => ?_) (fun c12 => ?_)
  · try simp only [zq] at c12
    refine g [[7,7,6,4,3,2],[0,7,6,3,2]] ?_;refine WC.drawO [_, _] (pz [1,3,5,7,9,11,13,14]) zk zk zX (fun _ hI => hI.tail) (g [[1]] ?_);refine WA.yd rfl (Yd.ix rfl rfl (hls.addr 0 (by omega))) rfl (WA.yd rfl (Yd.l1 rfl ((hls.at 0 (by omega)).rd 0 rfl)) rfl (g [[4]] ?_));refine WA.so rfl (SO.store 0 rfl SzF.h rfl rfl rfl rfl (zqb rfl) (za rfl)) rfl ?_;rintro _ _ _ ⟨rfl, rfl, rfl⟩;refine ⟨fun _ hI => hI.tail, ?_⟩;refine g [[3]] ?_;refine WP.ret1 rfl rfl rfl (RV.cellN AgF.h SzF.h rfl (vs := [_, _, _]) rfl (RdN.own (k := 0) (n := 3) rfl rfl)) (fun w hI => ⟨congrArg Ending.returned (by rw [if_pos (by assumption)]; rfl), hI.keep⟩)
  try simp only [zq] at c12
  refine g [[3],[0,7,6,3,2]] ?_;refine WC.drawO [_, _] (pz [1,3,5,7,9,11,13,14]) zk zk zX (fun _ hI => hI.tail) (g [[1]] ?_);refine WA.yd rfl (Yd.ix rfl rfl (hls.addr 0 (by omega))) rfl (WA.yd rfl (Yd.l1 rfl ((hls.at 0 (by omega)).rd 0 rfl)) rfl (g [[4]] ?_));refine WA.so rfl (SO.store 0 rfl SzF.h rfl rfl rfl rfl (zqb rfl) (za rfl)) rfl ?_;rintro _ _ _ ⟨rfl, rfl, rfl⟩;refine ⟨fun _ hI => hI.tail, ?_⟩;refine g [[3]] ?_;refine WP.ret1 rfl rfl rfl (RV.cellN AgF.h SzF.h rfl (vs := [_, _, _]) rfl (RdN.own (k := 0) (n := 3) rfl rfl)) (fun w hI => ⟨congrArg Ending.returned (by rw [if_neg (by assumption)]; rfl), hI.keep⟩)
theorem Km (hnl : ls.length = 2) (w : World) (hH : Holds D w) (kd : Int) : z8 Tryz.prog 341 [.agg #[it kd], (yL x m s), .slice al nl cl] w (entV (⟨(gt ls 0), kd, (gt ls 1)⟩ : Ent)) := by
  unfold z8;obtain rfl := hls.len';refine en Tryz.func341 rfl Tryz.ntmps341 (Inv.start hH) (g [[1],[1,0,1,2]] ?_);refine WL.so (SO.box rfl rfl) rfl (zw fun b3 hb3 => ?_);refine WL.so (SO.box rfl rfl) rfl (zw fun b4 hb4 => ?_);refine WL.so (SO.alloc ZvF.h rfl) rfl (zw fun b6 hb6 => ?_);refine g [[3],[0,6,3,2],[3009],[1]] ?_;refine WQ.q rfl (Yd.qt (Yd.ix rfl rfl (hls.addr 0 (by omega)))) rfl (WQ.q rfl (Yd.qt (Yd.l1 rfl ((hls.at 0 (by omega)).rd 0 rfl))) rfl (g [[4]] ?_));refine WQ.q rfl (Yd.qt (Yd.ix rfl rfl (hls.addr 0 (by omega)))) rfl (WQ.q rfl (Yd.qt (Yd.l1 rfl ((hls.at 1 (by omega)).rd 0 rfl))) rfl (g [[6]] ?_));refine WP.ret1 rfl rfl rfl (RV.cellN AgF.h SzF.h rfl (vs := [_, _, _]) rfl (RdN.own (k := 0) (n := 3) rfl rfl)) (fun w hI => ⟨congrArg Ending.returned rfl, hI.keep⟩)
end
theorem of_g (xb : Nat) (n : Int) (D : Imm) (w : World) (hH : Holds D w) : y6 Tryz.prog 226 [pt xb, it n] w D (fun v D' => ∃ bx bn, v = .func (.func 273) #[] #[pt bx, pt bn] ∧ D' bx = some (.cells (List.toArray [pt xb]) 50 (0, 0)) ∧ D' bn = some (.cells (List.toArray [it n]) 3 (0, 0))) := by
  unfold y6;refine en Tryz.func226 rfl Tryz.ntmps226 (Inv.start hH) (g [[1],[1,0,1]] ?_);refine WL.so (SO.box rfl rfl) rfl (zw fun b2 hb2 => ?_);refine WL.so (SO.box rfl rfl) rfl (zw fun b3 hb3 => ?_);refine g [[4]] ?_;refine WC.freezeN 0 b3 (.cells (List.toArray [it n]) 3 (0, 0)) rfl rfl hb3 (fun D1 hX1 h3 => ?_);refine WC.freezeN 0 b2 (.cells (List.toArray [pt xb]) 50 (0, 0)) rfl rfl hb2 (fun D2 hX2 h2 => ?_);replace h3 := hX2.old _ _ h3;refine g [[6,4,3,2]] ?_;refine WP.ret1 rfl rfl rfl (RV.tmp rfl) (fun w1 hI => ⟨_, D2, rfl, hI.keep, hI.imm, hX1.trans hX2 (Nat.le_refl _), b2, b3, rfl, h2, h3⟩)
section
variable (x : Wick) (d : Day) (m s t l b : Sl) (xb : Nat) (D : Imm) (w : World) (hw : zS x = true) (hdo : zT x d) (hW : yG D x m s) (hd : DayR D d t l b) (hL : LibW D) (ls : List Int) (al : Option Addr) (nl cl : Nat) (hls : SlL D 1 (ls.map intC) al nl)
include x d m s t l b xb D w hw hdo hW hd hL ls al nl cl hls
theorem Zi (hnl : ls.length = 1) (hll : nl ≤ 1000) (hI0 : Inv D [(xb, womO x m s t l b)] [xb] w w) (kd : Int) (bk : Nat) (hbk : D bk = some (.cells (List.toArray [.iface 218 (.agg #[it kd])]) 220 (0, 0))) : yl Tryz.prog 225 [pt xb, .slice al nl cl, pt bk] w D [xb] (PutK x m s xb (xX d (⟨(gt ls 0), kd, if kd = 2 then x.fine else x.price⟩ : Ent))) (PutC x m s t l b xb (xX d (⟨(gt ls 0), kd, if kd = 2 then x.fine else x.price⟩ : Ent))) := by
  unfold yl;obtain rfl := hls.len';have htn : t.n = d.tks.length := hd.tks.len';have hbn' : b.n = d.book.length := hd.book.len';have hb3 := hd.len;obtain ⟨hxn, hI1⟩ := zcB hI0;have hd0 := hd;have hL0 := hL;have hXx : DExt { w with heap := #[] } D (D.add xb (womO x m s t l b)) := ⟨xD hxn, fun b h => by simp at h⟩;replace hW := hW.ext hXx;replace hd := hd.ext hXx;replace hL := hL.ext hXx;replace hls := hls.ext hXx;replace hbk := hXx.old _ _ hbk;have hxD := Imm.add_self D xb (womO x m s t l b);refine enN Tryz.func225 rfl Tryz.ntmps225 hI1 (g [[2],[6,0,1,2],[0,5,0,1,2],[3009],[1]] ?_);refine WQ.q rfl (Yd.qt (Yd.ix rfl rfl (hls.addr 0 (by omega)))) rfl (WQ.q rfl (Yd.qt (Yd.l1 rfl ((hls.at 0 (by omega)).rd 0 rfl))) rfl (g [[8]] ?_));refine WL.part 17 rfl (fun g17 => ?_) (fun g17 => ?_)
  · try simp only [zq] at g17
    refine WL.cl rfl (fun w hI => zB _ _) (g [[4],[0,5,0,1,2]] ?_);refine WC.drawH [] zk zNl (g [[1000],[1001],[1002],[1003],[1004],[1005],[1006]] ?_);refine WH.yd (i := 7) zk zX rfl (Yd.nilCheckM rfl (fun w => by kernel_rfl)) rfl (g [[1008]] ?_);refine WH.two (i := 9) (j := 10) zk ?_ ?_
    · refine WHo.so rfl (SO.call (Enters.meth CaF.h (fun w => by kernel_rfl) rfl rfl) (fun w hI => Kl x m s ls al _ cl _ hls hnl _ hI.imm kd)) rfl (zs ⟨zNl, ?_⟩);refine WH.one (i := 10) zk (WHo.so rfl (SO.alloc ZvF.h rfl) rfl ?_);rintro _ _ _ ⟨b6, hb6, rfl, rfl, rfl⟩;refine ⟨zNl, ?_⟩;refine WH.one (i := 11) zk (WHo.so rfl (SO.store 0 rfl SzF.h rfl rfl rfl rfl (zqb rfl) (za rfl)) rfl ?_);rintro _ _ _ ⟨rfl, rfl, rfl⟩;refine ⟨zNl, ?_⟩;refine WH.nil zk (g [[4],[4,6,5,0]] ?_);refine WL.so (SO.makes (Enters.func Tryz.call226 rfl) (fun w hI => of_g xb (gt ls 0) _ _ hI.imm)) rfl ?_;rintro _ D2 _ ⟨hX2, ⟨bx, bn, rfl, hbx, hbn⟩, rfl⟩;have hxD2 := hX2.old _ _ hxD;replace hd := hd.ext hX2;replace hL := hL.ext hX2;refine g [[3],[0,0,6,32]] ?_;refine WCn.rangeIterP (gf := 273) (lb := [pt bx, pt bn]) (N := (ofT d (gt ls 0)).length) (arg := fun k => entV (gt (ofT d (gt ls 0)) k)) [] [(b6, .cells (List.toArray (entC (⟨(gt ls 0), kd, if kd = 2 then x.fine else x.price⟩ : Ent))) 46 (0, 0))] rfl Tryz.func225 (fun w' _ _ => kG x d m s t l b xb (gt ls 0) bx bn D2 hxD2 hd hbx hbn w') rfl Tryz.call273 rfl (fun k _ h => h = [(b6, .cells (List.toArray (entC (⟨(gt ls 0), kd, if kd = 2 then x.fine else x.price⟩ : Ent))) 46 (0, 0))] ∧ ∀ j, j < k → ¬ (gt (ofT d (gt ls 0)) j).kind = (⟨(gt ls 0), kd, if kd = 2 then x.fine else x.price⟩ : Ent).kind) (fun ch _ h => ch = jA 5 ∧ h = [(b6, .cells (List.toArray (entC (⟨(gt ls 0), kd, if kd = 2 then x.fine else x.price⟩ : Ent))) 46 (0, 0))] ∧ zM d.book (gt ls 0) (⟨(gt ls 0), kd, if kd = 2 then x.fine else x.price⟩ : Ent).kind = true) (fun _ _ _ _ _ h => h) ⟨rfl, by intro j hj; omega⟩ ?_ ?_ ?_
      · rintro rec l2 Dn k D5 _ w1 hrec hk ⟨rfl, hd5⟩ hX5 hsz;unfold qy;refine g [[1,33,6]] ?_;refine WLF.so (zn rfl) (SO.alloc ZvF.h rfl) rfl (zw fun b7 hb7 => ?_);refine g [[2]] ?_;refine WP.iterBegin 1 rfl hrec (g [[1],[6,7,6]] ?_);refine WLF.part 38 rfl (fun g38 => ?_) (fun g38 => ?_)
        · try simp only [zq] at g38
          refine WLF.cl rfl (fun w hI => zB _ _) (g [[2]] ?_);exact WP.iterOnP hrec (pre := [(Dn, _)]) (h1 := [(b6, .cells (List.toArray (entC (⟨(gt ls 0), kd, if kd = 2 then x.fine else x.price⟩ : Ent))) 46 (0, 0))]) zU1 zU2 (DExt.refl _ _) ⟨rfl, xd hd5 g38⟩
        try simp only [zq] at g38
        refine WLF.no (zn rfl) (SO.fail (Enters.func CaF.h rfl) (fun w hI => zy _ _) (g [[1]] ?_));exact WP.iterPanic (pre := [(Dn, _)]) (h1 := [(b6, .cells (List.toArray (entC (⟨(gt ls 0), kd, if kd = 2 then x.fine else x.price⟩ : Ent))) 46 (0, 0))]) rfl zU1 zU2 (DExt.refl _ _) ⟨rfl, rfl, qe hk (Decidable.not_not.1 g38)⟩
      · rintro Dn D6 _ hsz hX6 ⟨rfl, hd6⟩;refine g [[4]] ?_;have hbf : zM d.book (gt ls 0) (⟨(gt ls 0), kd, if kd = 2 then x.fine else x.price⟩ : Ent).kind = false := qd hd6;have hxD6 := hX6.old _ _ hxD2;refine WC.thawS hxD6 (.inl (by simp)) ?_;refine WC.hpPerm [(Dn, _), (xb, _), (b6, .cells (List.toArray (entC (⟨(gt ls 0), kd, if kd = 2 then x.fine else x.price⟩ : Ent))) 46 (0, 0))] (List.Perm.swap _ _ _) ?_;have hXa := DExt.lent hxn (hX2.trans hX6 (Nat.le_refl _));have hLa := hL0.ext hXa;have hda := hd0.ext hXa;clear hL hd;have hL := hLa;have hd := hda;clear hLa hda;generalize D6.minus xb = D7 at hXa hd hL ⊢;refine g [[0,0,6]] ?_;refine WC.drawD [_] (pz [1,3,5,7,9,13,10,14,17,19,21,22]) zk zk zX (fun _ hI => hI.tail.tail) (g [[6]] ?_);refine WA.so rfl (SO.ofYd (Yd.l1 rfl (Rd.own (k := 1) rfl rfl))) rfl (zs ⟨fun _ hI => hI.tail.tail, ?_⟩);refine WA.so rfl (SO.makes (Enters.func Tryz.call227 rfl) (fun w1 hI => vA d.book (⟨(gt ls 0), kd, if kd = 2 then x.fine else x.price⟩ : Ent) b.a _ b.c _ hd.book hd.len.2.2 w1 hI.imm)) rfl ?_;rintro _ D8 _ ⟨hX8, ⟨a2, c2, rfl, hS2, hc2⟩, rfl⟩;replace hL := hL.ext hX8;have hd8 := hd.ext hX8;refine ⟨fun _ hI => hI.tail.tail.shrink hX8.old, ?_⟩;refine g [[3]] ?_;refine WA.so rfl (SO.store 1 rfl SzF.h rfl rfl rfl rfl (zqb rfl) (za rfl)) rfl ?_;rintro _ _ _ ⟨rfl, rfl, rfl⟩;refine ⟨fun _ hI => hI.tail.tail.shrink hX8.old, ?_⟩;refine g [[4],[8,0]] ?_;refine WL.know 57 (it ((d.book.length : Int) + 1)) rfl (by rw [List.length_append]; rfl) (g [[1]] ?_);refine WL.know 58 (it (d.book.length : Int)) rfl (by rw [show (d.book.length : Int) + 1 - 1 = d.book.length by omega]) (g [[1]] ?_);refine WL.so (SO.buildSlice1 UnF.h SzF.h ZvF.h rfl rfl rfl (vs := [_, _]) rfl rfl rfl) rfl ?_;rintro _ _ _ ⟨b60, hb60, rfl, rfl, rfl⟩;refine WL.freezeN 0 b60 (.cells (List.toArray ([Pt.s uJ, Pt.n (d.book.length : Int)].flatMap ptI ++ [])) 20 (0, 0)) rfl rfl hb60 (fun D9 hX9 h60 => ?_);refine WL.cl rfl (fun w hI => xK [Pt.s uJ, Pt.n (d.book.length : Int)] (some ⟨b60, 0, none⟩) 2 2 D9 (hL.ext hX9) (SlL.ofBlock yu h60) (by decide) (by intro p hp; simp only [List.mem_cons, List.not_mem_nil, or_false] at hp; rcases hp with rfl | rfl; exact (show List.length _ ≤ 100 by decide); exact (by unfold ptB; unfold i64B; omega)) _ hI.imm) (g [[5]] ?_);refine WP.retMs [Dn] [(xb, _)] [_] [_] rfl rfl zU1 zU2 rfl zV (fun w1 hI => ⟨D9, _, (hXa.trans hX8 (Nat.le_refl _)).trans hX9 (Nat.le_refl _), hI, .inl ⟨_, rfl, by rw [yA, if_neg (by dsimp only; omega), if_neg (by rw [hbf]; simp)]; exact ⟨rfl, by rw [← xa _ [_]]; rfl, t, l, ⟨a2, d.book.length + 1, c2⟩, Wg, X8 (hd8.ext hX9) (hS2.ext hX9) hc2 (by have := wx hdo; omega)⟩⟩⟩)
      rintro Dn ch D6 _ hsz hX6 ⟨rfl, rfl, hbt⟩;refine g [[2]] ?_;exact WP.panicMs [Dn] [] rfl zU1 zU2 (fun w1 hI => ⟨_, _, DExt.lent hxn (hX2.trans hX6 (Nat.le_refl _)), hI.thawS (hX6.old _ _ hxD2) (.inl (by simp)), .inr ⟨_, rfl, by rw [yA, if_neg (by dsimp only; omega), if_pos hbt]; exact ⟨by simp [errD], rfl, rfl⟩⟩⟩)
    refine WHo.so rfl (SO.alloc ZvF.h rfl) rfl ?_;rintro _ _ _ ⟨b6, hb6, rfl, rfl, rfl⟩;refine ⟨zNl, ?_⟩;refine WH.know 23 (yL x m s) rfl rfl ?_;refine WH.one (i := 9) zk (WHo.so rfl (SO.call (Enters.meth CaF.h (fun w => by kernel_rfl) rfl rfl) (fun w hI => Kl x m s ls al _ cl _ hls hnl _ hI.imm kd)) rfl (zs ⟨zNl, ?_⟩));refine WH.one (i := 11) zk (WHo.so rfl (SO.store 0 rfl SzF.h rfl rfl rfl rfl (zqb rfl) (za rfl)) rfl ?_);rintro _ _ _ ⟨rfl, rfl, rfl⟩;refine ⟨zNl, ?_⟩;refine WH.nil zk (g [[4],[4,6,5,0]] ?_);refine WL.so (SO.makes (Enters.func Tryz.call226 rfl) (fun w hI => of_g xb (gt ls 0) _ _ hI.imm)) rfl ?_;rintro _ D2 _ ⟨hX2, ⟨bx, bn, rfl, hbx, hbn⟩, rfl⟩;have hxD2 := hX2.old _ _ hxD;replace hd := hd.ext hX2;replace hL := hL.ext hX2;refine g [[3],[0,0,6,32]] ?_;refine WCn.rangeIterP (gf := 273) (lb := [pt bx, pt bn]) (N := (ofT d (gt ls 0)).length) (arg := fun k => entV (gt (ofT d (gt ls 0)) k)) [] [(b6, .cells (List.toArray (entC (⟨(gt ls 0), kd, if kd = 2 then x.fine else x.price⟩ : Ent))) 46 (0, 0))] rfl Tryz.func225 (fun w' _ _ => kG x d m s t l b xb (gt ls 0) bx bn D2 hxD2 hd hbx hbn w') rfl Tryz.call273 rfl (fun k _ h => h = [(b6, .cells (List.toArray (entC (⟨(gt ls 0), kd, if kd = 2 then x.fine else x.price⟩ : Ent))) 46 (0, 0))] ∧ ∀ j, j < k → ¬ (gt (ofT d (gt ls 0)) j).kind = (⟨(gt ls 0), kd, if kd = 2 then x.fine else x.price⟩ : Ent).kind) (fun ch _ h => ch = jA 5 ∧ h = [(b6, .cells (List.toArray (entC (⟨(gt ls 0), kd, if kd = 2 then x.fine else x.price⟩ : Ent))) 46 (0, 0))] ∧ zM d.book (gt ls 0) (⟨(gt ls 0), kd, if kd = 2 then x.fine else x.price⟩ : Ent).kind = true) (fun _ _ _ _ _ h => h) ⟨rfl, by intro j hj; omega⟩ ?_ ?_ ?_
    · rintro rec l2 Dn k D5 _ w1 hrec hk ⟨rfl, hd5⟩ hX5 hsz;unfold qy;refine g [[1,33,6]] ?_;refine WLF.so (zn rfl) (SO.alloc ZvF.h rfl) rfl (zw fun b7 hb7 => ?_);refine g [[2]] ?_;refine WP.iterBegin 1 rfl hrec (g [[1],[6,7,6]] ?_);refine WLF.part 38 rfl (fun g38 => ?_) (fun g38 => ?_)
      · try simp only [zq] at g38
        refine WLF.cl rfl (fun w hI => zB _ _) (g [[2]] ?_);exact WP.iterOnP hrec (pre := [(Dn, _)]) (h1 := [(b6, .cells (List.toArray (entC (⟨(gt ls 0), kd, if kd = 2 then x.fine else x.price⟩ : Ent))) 46 (0, 0))]) zU1 zU2 (DExt.refl _ _) ⟨rfl, xd hd5 g38⟩
      try simp only [zq] at g38
      refine WLF.no (zn rfl) (SO.fail (Enters.func CaF.h rfl) (fun w hI => zy _ _) (g [[1]] ?_));exact WP.iterPanic (pre := [(Dn, _)]) (h1 := [(b6, .cells (List.toArray (entC (⟨(gt ls 0), kd, if kd = 2 then x.fine else x.price⟩ : Ent))) 46 (0, 0))]) rfl zU1 zU2 (DExt.refl _ _) ⟨rfl, rfl, qe hk (Decidable.not_not.1 g38)⟩
    · rintro Dn D6 _ hsz hX6 ⟨rfl, hd6⟩;refine g [[4]] ?_;have hbf : zM d.book (gt ls 0) (⟨(gt ls 0), kd, if kd = 2 then x.fine else x.price⟩ : Ent).kind = false := qd hd6;have hxD6 := hX6.old _ _ hxD2;refine WC.thawS hxD6 (.inl (by simp)) ?_;refine WC.hpPerm [(Dn, _), (xb, _), (b6, .cells (List.toArray (entC (⟨(gt ls 0), kd, if kd = 2 then x.fine else x.price⟩ : Ent))) 46 (0, 0))] (List.Perm.swap _ _ _) ?_;have hXa := DExt.lent hxn (hX2.trans hX6 (Nat.le_refl _));have hLa := hL0.ext hXa;have hda := hd0.ext hXa;clear hL hd;have hL := hLa;have hd := hda;clear hLa hda;generalize D6.minus xb = D7 at hXa hd hL ⊢;refine g [[0,0,6]] ?_;refine WC.drawD [_] (pz [1,3,5,7,9,13,10,14,17,19,21,22]) zk zk zX (fun _ hI => hI.tail.tail) (g [[6]] ?_);refine WA.so rfl (SO.ofYd (Yd.l1 rfl (Rd.own (k := 1) rfl rfl))) rfl (zs ⟨fun _ hI => hI.tail.tail, ?_⟩);refine WA.so rfl (SO.makes (Enters.func Tryz.call227 rfl) (fun w1 hI => vA d.book (⟨(gt ls 0), kd, if kd = 2 then x.fine else x.price⟩ : Ent) b.a _ b.c _ hd.book hd.len.2.2 w1 hI.imm)) rfl ?_;rintro _ D8 _ ⟨hX8, ⟨a2, c2, rfl, hS2, hc2⟩, rfl⟩;replace hL := hL.ext hX8;have hd8 := hd.ext hX8;refine ⟨fun _ hI => hI.tail.tail.shrink hX8.old, ?_⟩;refine g [[3]] ?_;refine WA.so rfl (SO.store 1 rfl SzF.h rfl rfl rfl rfl (zqb rfl) (za rfl)) rfl ?_;rintro _ _ _ ⟨rfl, rfl, rfl⟩;refine ⟨fun _ hI => hI.tail.tail.shrink hX8.old, ?_⟩;refine g [[4],[8,0]] ?_;refine WL.know 57 (it ((d.book.length : Int) + 1)) rfl (by rw [List.length_append]; rfl) (g [[1]] ?_);refine WL.know 58 (it (d.book.length : Int)) rfl (by rw [show (d.book.length : Int) + 1 - 1 = d.book.length by omega]) (g [[1]] ?_);refine WL.so (SO.buildSlice1 UnF.h SzF.h ZvF.h rfl rfl rfl (vs := [_, _]) rfl rfl rfl) rfl ?_;rintro _ _ _ ⟨b60, hb60, rfl, rfl, rfl⟩;refine WL.freezeN 0 b60 (.cells (List.toArray ([Pt.s uJ, Pt.n (d.book.length : Int)].flatMap ptI ++ [])) 20 (0, 0)) rfl rfl hb60 (fun D9 hX9 h60 => ?_);refine WL.cl rfl (fun w hI => xK [Pt.s uJ, Pt.n (d.book.length : Int)] (some ⟨b60, 0, none⟩) 2 2 D9 (hL.ext hX9) (SlL.ofBlock yu h60) (by decide) (by intro p hp; simp only [List.mem_cons, List.not_mem_nil, or_false] at hp; rcases hp with rfl | rfl; exact (show List.length _ ≤ 100 by decide); exact (by unfold ptB; unfold i64B; omega)) _ hI.imm) (g [[5]] ?_);refine WP.retMs [Dn] [(xb, _)] [_] [_] rfl rfl zU1 zU2 rfl zV (fun w1 hI => ⟨D9, _, (hXa.trans hX8 (Nat.le_refl _)).trans hX9 (Nat.le_refl _), hI, .inl ⟨_, rfl, by rw [yA, if_neg (by dsimp only; omega), if_neg (by rw [hbf]; simp)]; exact ⟨rfl, by rw [← xa _ [_]]; rfl, t, l, ⟨a2, d.book.length + 1, c2⟩, Wg, X8 (hd8.ext hX9) (hS2.ext hX9) hc2 (by have := wx hdo; omega)⟩⟩⟩)
    rintro Dn ch D6 _ hsz hX6 ⟨rfl, rfl, hbt⟩;refine g [[2]] ?_;exact WP.panicMs [Dn] [] rfl zU1 zU2 (fun w1 hI => ⟨_, _, DExt.lent hxn (hX2.trans hX6 (Nat.le_refl _)), hI.thawS (hX6.old _ _ hxD2) (.inl (by simp)), .inr ⟨_, rfl, by rw [yA, if_neg (by dsimp only; omega), if_pos hbt]; exact ⟨by simp [errD], rfl, rfl⟩⟩⟩)
  try simp only [zq] at g17
  refine WL.nf rfl (fun w hI => zy _ _) (g [[1]] ?_);exact WP.panicMs [] [] rfl zU1 zU2 (fun w1 hI => ⟨_, _, DExt.lent hxn (DExt.refl _ _), hI.thawS hxD (.inl (by simp)), .inr ⟨_, rfl, by rw [yA, if_pos (by dsimp only; omega)]; exact ⟨by simp [errD], rfl, rfl⟩⟩⟩)
theorem Vr (hnl : ls.length = 2) (hll : nl ≤ 1000) (hI0 : Inv D [(xb, womO x m s t l b)] [xb] w w) (kd : Int) (bk : Nat) (hbk : D bk = some (.cells (List.toArray [.iface 222 (.agg #[it kd])]) 220 (0, 0))) : yl Tryz.prog 225 [pt xb, .slice al nl cl, pt bk] w D [xb] (PutK x m s xb (xX d (⟨(gt ls 0), kd, (gt ls 1)⟩ : Ent))) (PutC x m s t l b xb (xX d (⟨(gt ls 0), kd, (gt ls 1)⟩ : Ent))) := by
  unfold yl;obtain rfl := hls.len';have htn : t.n = d.tks.length := hd.tks.len';have hbn' : b.n = d.book.length := hd.book.len';have hb3 := hd.len;obtain ⟨hxn, hI1⟩ := zcB hI0;have hd0 := hd;have hL0 := hL;have hXx : DExt { w with heap := #[] } D (D.add xb (womO x m s t l b)) := ⟨xD hxn, fun b h => by simp at h⟩;replace hW := hW.ext hXx;replace hd := hd.ext hXx;replace hL := hL.ext hXx;replace hls := hls.ext hXx;replace hbk := hXx.old _ _ hbk;have hxD := Imm.add_self D xb (womO x m s t l b);refine enN Tryz.func225 rfl Tryz.ntmps225 hI1 (g [[2],[6,0,1,2],[0,5,0,1,2],[3009],[1]] ?_);refine WQ.q rfl (Yd.qt (Yd.ix rfl rfl (hls.addr 0 (by omega)))) rfl (WQ.q rfl (Yd.qt (Yd.l1 rfl ((hls.at 0 (by omega)).rd 0 rfl))) rfl (g [[8]] ?_));refine WL.part 17 rfl (fun g17 => ?_) (fun g17 => ?_)
  · try simp only [zq] at g17
    refine WL.cl rfl (fun w hI => zB _ _) (g [[4],[0,5,0,1,2]] ?_);refine WC.drawH [] zk zNl (g [[1000],[1001],[1002],[1003],[1004],[1005],[1006]] ?_);refine WH.yd (i := 7) zk zX rfl (Yd.nilCheckM rfl (fun w => by kernel_rfl)) rfl (g [[1008]] ?_);refine WH.two (i := 9) (j := 10) zk ?_ ?_
    · refine WHo.so rfl (SO.call (Enters.meth CaF.h (fun w => by kernel_rfl) rfl rfl) (fun w hI => Km x m s ls al _ cl _ hls hnl _ hI.imm kd)) rfl (zs ⟨zNl, ?_⟩);refine WH.one (i := 10) zk (WHo.so rfl (SO.alloc ZvF.h rfl) rfl ?_);rintro _ _ _ ⟨b6, hb6, rfl, rfl, rfl⟩;refine ⟨zNl, ?_⟩;refine WH.one (i := 11) zk (WHo.so rfl (SO.store 0 rfl SzF.h rfl rfl rfl rfl (zqb rfl) (za rfl)) rfl ?_);rintro _ _ _ ⟨rfl, rfl, rfl⟩;refine ⟨zNl, ?_⟩;refine WH.nil zk (g [[4],[4,6,5,0]] ?_);refine WL.so (SO.makes (Enters.func Tryz.call226 rfl) (fun w hI => of_g xb (gt ls 0) _ _ hI.imm)) rfl ?_;rintro _ D2 _ ⟨hX2, ⟨bx, bn, rfl, hbx, hbn⟩, rfl⟩;have hxD2 := hX2.old _ _ hxD;replace hd := hd.ext hX2;replace hL := hL.ext hX2;refine g [[3],[0,0,6,32]] ?_;refine WCn.rangeIterP (gf := 273) (lb := [pt bx, pt bn]) (N := (ofT d (gt ls 0)).length) (arg := fun k => entV (gt (ofT d (gt ls 0)) k)) [] [(b6, .cells (List.toArray (entC (⟨(gt ls 0), kd, (gt ls 1)⟩ : Ent))) 46 (0, 0))] rfl Tryz.func225 (fun w' _ _ => kG x d m s t l b xb (gt ls 0) bx bn D2 hxD2 hd hbx hbn w') rfl Tryz.call273 rfl (fun k _ h => h = [(b6, .cells (List.toArray (entC (⟨(gt ls 0), kd, (gt ls 1)⟩ : Ent))) 46 (0, 0))] ∧ ∀ j, j < k → ¬ (gt (ofT d (gt ls 0)) j).kind = (⟨(gt ls 0), kd, (gt ls 1)⟩ : Ent).kind) (fun ch _ h => ch = jA 5 ∧ h = [(b6, .cells (List.toArray (entC (⟨(gt ls 0), kd, (gt ls 1)⟩ : Ent))) 46 (0, 0))] ∧ zM d.book (gt ls 0) (⟨(gt ls 0), kd, (gt ls 1)⟩ : Ent).kind = true) (fun _ _ _ _ _ h => h) ⟨rfl, by intro j hj; omega⟩ ?_ ?_ ?_
      · rintro rec l2 Dn k D5 _ w1 hrec hk ⟨rfl, hd5⟩ hX5 hsz;unfold qy;refine g [[1,33,6]] ?_;refine WLF.so (zn rfl) (SO.alloc ZvF.h rfl) rfl (zw fun b7 hb7 => ?_);refine g [[2]] ?_;refine WP.iterBegin 1 rfl hrec (g [[1],[6,7,6]] ?_);refine WLF.part 38 rfl (fun g38 => ?_) (fun g38 => ?_)
        · try simp only [zq] at g38
          refine WLF.cl rfl (fun w hI => zB _ _) (g [[2]] ?_);exact WP.iterOnP hrec (pre := [(Dn, _)]) (h1 := [(b6, .cells (List.toArray (entC (⟨(gt ls 0), kd, (gt ls 1)⟩ : Ent))) 46 (0, 0))]) zU1 zU2 (DExt.refl _ _) ⟨rfl, xd hd5 g38⟩
        try simp only [zq] at g38
        refine WLF.no (zn rfl) (SO.fail (Enters.func CaF.h rfl) (fun w hI => zy _ _) (g [[1]] ?_));exact WP.iterPanic (pre := [(Dn, _)]) (h1 := [(b6, .cells (List.toArray (entC (⟨(gt ls 0), kd, (gt ls 1)⟩ : Ent))) 46 (0, 0))]) rfl zU1 zU2 (DExt.refl _ _) ⟨rfl, rfl, qe hk (Decidable.not_not.1 g38)⟩
      · rintro Dn D6 _ hsz hX6 ⟨rfl, hd6⟩;refine g [[4]] ?_;have hbf : zM d.book (gt ls 0) (⟨(gt ls 0), kd, (gt ls 1)⟩ : Ent).kind = false := qd hd6;have hxD6 := hX6.old _ _ hxD2;refine WC.thawS hxD6 (.inl (by simp)) ?_;refine WC.hpPerm [(Dn, _), (xb, _), (b6, .cells (List.toArray (entC (⟨(gt ls 0), kd, (gt ls 1)⟩ : Ent))) 46 (0, 0))] (List.Perm.swap _ _ _) ?_;have hXa := DExt.lent hxn (hX2.trans hX6 (Nat.le_refl _));have hLa := hL0.ext hXa;have hda := hd0.ext hXa;clear hL hd;have hL := hLa;have hd := hda;clear hLa hda;generalize D6.minus xb = D7 at hXa hd hL ⊢;refine g [[0,0,6]] ?_;refine WC.drawD [_] (pz [1,3,5,7,9,13,10,14,17,19,21,22]) zk zk zX (fun _ hI => hI.tail.tail) (g [[6]] ?_);refine WA.so rfl (SO.ofYd (Yd.l1 rfl (Rd.own (k := 1) rfl rfl))) rfl (zs ⟨fun _ hI => hI.tail.tail, ?_⟩);refine WA.so rfl (SO.makes (Enters.func Tryz.call227 rfl) (fun w1 hI => vA d.book (⟨(gt ls 0), kd, (gt ls 1)⟩ : Ent) b.a _ b.c _ hd.book hd.len.2.2 w1 hI.imm)) rfl ?_;rintro _ D8 _ ⟨hX8, ⟨a2, c2, rfl, hS2, hc2⟩, rfl⟩;replace hL := hL.ext hX8;have hd8 := hd.ext hX8;refine ⟨fun _ hI => hI.tail.tail.shrink hX8.old, ?_⟩;refine g [[3]] ?_;refine WA.so rfl (SO.store 1 rfl SzF.h rfl rfl rfl rfl (zqb rfl) (za rfl)) rfl ?_;rintro _ _ _ ⟨rfl, rfl, rfl⟩;refine ⟨fun _ hI => hI.tail.tail.shrink hX8.old, ?_⟩;refine g [[4],[8,0]] ?_;refine WL.know 57 (it ((d.book.length : Int) + 1)) rfl (by rw [List.length_append]; rfl) (g [[1]] ?_);refine WL.know 58 (it (d.book.length : Int)) rfl (by rw [show (d.book.length : Int) + 1 - 1 = d.book.length by omega]) (g [[1]] ?_);refine WL.so (SO.buildSlice1 UnF.h SzF.h ZvF.h rfl rfl rfl (vs := [_, _]) rfl rfl rfl) rfl ?_;rintro _ _ _ ⟨b60, hb60, rfl, rfl, rfl⟩;refine WL.freezeN 0 b60 (.cells (List.toArray ([Pt.s uJ, Pt.n (d.book.length : Int)].flatMap ptI ++ [])) 20 (0, 0)) rfl rfl hb60 (fun D9 hX9 h60 => ?_);refine WL.cl rfl (fun w hI => xK [Pt.s uJ, Pt.n (d.book.length : Int)] (some ⟨b60, 0, none⟩) 2 2 D9 (hL.ext hX9) (SlL.ofBlock yu h60) (by decide) (by intro p hp; simp only [List.mem_cons, List.not_mem_nil, or_false] at hp; rcases hp with rfl | rfl; exact (show List.length _ ≤ 100 by decide); exact (by unfold ptB; unfold i64B; omega)) _ hI.imm) (g [[5]] ?_);refine WP.retMs [Dn] [(xb, _)] [_] [_] rfl rfl zU1 zU2 rfl zV (fun w1 hI => ⟨D9, _, (hXa.trans hX8 (Nat.le_refl _)).trans hX9 (Nat.le_refl _), hI, .inl ⟨_, rfl, by rw [yA, if_neg (by dsimp only; omega), if_neg (by rw [hbf]; simp)]; exact ⟨rfl, by rw [← xa _ [_]]; rfl, t, l, ⟨a2, d.book.length + 1, c2⟩, Wg, X8 (hd8.ext hX9) (hS2.ext hX9) hc2 (by have := wx hdo; omega)⟩⟩⟩)
      rintro Dn ch D6 _ hsz hX6 ⟨rfl, rfl, hbt⟩;refine g [[2]] ?_;exact WP.panicMs [Dn] [] rfl zU1 zU2 (fun w1 hI => ⟨_, _, DExt.lent hxn (hX2.trans hX6 (Nat.le_refl _)), hI.thawS (hX6.old _ _ hxD2) (.inl (by simp)), .inr ⟨_, rfl, by rw [yA, if_neg (by dsimp only; omega), if_pos hbt]; exact ⟨by simp [errD], rfl, rfl⟩⟩⟩)
    refine WHo.so rfl (SO.alloc ZvF.h rfl) rfl ?_;rintro _ _ _ ⟨b6, hb6, rfl, rfl, rfl⟩;refine ⟨zNl, ?_⟩;refine WH.know 23 (yL x m s) rfl rfl ?_;refine WH.one (i := 9) zk (WHo.so rfl (SO.call (Enters.meth CaF.h (fun w => by kernel_rfl) rfl rfl) (fun w hI => Km x m s ls al _ cl _ hls hnl _ hI.imm kd)) rfl (zs ⟨zNl, ?_⟩));refine WH.one (i := 11) zk (WHo.so rfl (SO.store 0 rfl SzF.h rfl rfl rfl rfl (zqb rfl) (za rfl)) rfl ?_);rintro _ _ _ ⟨rfl, rfl, rfl⟩;refine ⟨zNl, ?_⟩;refine WH.nil zk (g [[4],[4,6,5,0]] ?_);refine WL.so (SO.makes (Enters.func Tryz.call226 rfl) (fun w hI => of_g xb (gt ls 0) _ _ hI.imm)) rfl ?_;rintro _ D2 _ ⟨hX2, ⟨bx, bn, rfl, hbx, hbn⟩, rfl⟩;have hxD2 := hX2.old _ _ hxD;replace hd := hd.ext hX2;replace hL := hL.ext hX2;refine g [[3],[0,0,6,32]] ?_;refine WCn.rangeIterP (gf := 273) (lb := [pt bx, pt bn]) (N := (ofT d (gt ls 0)).length) (arg := fun k => entV (gt (ofT d (gt ls 0)) k)) [] [(b6, .cells (List.toArray (entC (⟨(gt ls 0), kd, (gt ls 1)⟩ : Ent))) 46 (0, 0))] rfl Tryz.func225 (fun w' _ _ => kG x d m s t l b xb (gt ls 0) bx bn D2 hxD2 hd hbx hbn w') rfl Tryz.call273 rfl (fun k _ h => h = [(b6, .cells (List.toArray (entC (⟨(gt ls 0), kd, (gt ls 1)⟩ : Ent))) 46 (0, 0))] ∧ ∀ j, j < k → ¬ (gt (ofT d (gt ls 0)) j).kind = (⟨(gt ls 0), kd, (gt ls 1)⟩ : Ent).kind) (fun ch _ h => ch = jA 5 ∧ h = [(b6, .cells (List.toArray (entC (⟨(gt ls 0), kd, (gt ls 1)⟩ : Ent))) 46 (0, 0))] ∧ zM d.book (gt ls 0) (⟨(gt ls 0), kd, (gt ls 1)⟩ : Ent).kind = true) (fun _ _ _ _ _ h => h) ⟨rfl, by intro j hj; omega⟩ ?_ ?_ ?_
    · rintro rec l2 Dn k D5 _ w1 hrec hk ⟨rfl, hd5⟩ hX5 hsz;unfold qy;refine g [[1,33,6]] ?_;refine WLF.so (zn rfl) (SO.alloc ZvF.h rfl) rfl (zw fun b7 hb7 => ?_);refine g [[2]] ?_;refine WP.iterBegin 1 rfl hrec (g [[1],[6,7,6]] ?_);refine WLF.part 38 rfl (fun g38 => ?_) (fun g38 => ?_)
      · try simp only [zq] at g38
        refine WLF.cl rfl (fun w hI => zB _ _) (g [[2]] ?_);exact WP.iterOnP hrec (pre := [(Dn, _)]) (h1 := [(b6, .cells (List.toArray (entC (⟨(gt ls 0), kd, (gt ls 1)⟩ : Ent))) 46 (0, 0))]) zU1 zU2 (DExt.refl _ _) ⟨rfl, xd hd5 g38⟩
      try simp only [zq] at g38
      refine WLF.no (zn rfl) (SO.fail (Enters.func CaF.h rfl) (fun w hI => zy _ _) (g [[1]] ?_));exact WP.iterPanic (pre := [(Dn, _)]) (h1 := [(b6, .cells (List.toArray (entC (⟨(gt ls 0), kd, (gt ls 1)⟩ : Ent))) 46 (0, 0))]) rfl zU1 zU2 (DExt.refl _ _) ⟨rfl, rfl, qe hk (Decidable.not_not.1 g38)⟩
    · rintro Dn D6 _ hsz hX6 ⟨rfl, hd6⟩;refine g [[4]] ?_;have hbf : zM d.book (gt ls 0) (⟨(gt ls 0), kd, (gt ls 1)⟩ : Ent).kind = false := qd hd6;have hxD6 := hX6.old _ _ hxD2;refine WC.thawS hxD6 (.inl (by simp)) ?_;refine WC.hpPerm [(Dn, _), (xb, _), (b6, .cells (List.toArray (entC (⟨(gt ls 0), kd, (gt ls 1)⟩ : Ent))) 46 (0, 0))] (List.Perm.swap _ _ _) ?_;have hXa := DExt.lent hxn (hX2.trans hX6 (Nat.le_refl _));have hLa := hL0.ext hXa;have hda := hd0.ext hXa;clear hL hd;have hL := hLa;have hd := hda;clear hLa hda;generalize D6.minus xb = D7 at hXa hd hL ⊢;refine g [[0,0,6]] ?_;refine WC.drawD [_] (pz [1,3,5,7,9,13,10,14,17,19,21,22]) zk zk zX (fun _ hI => hI.tail.tail) (g [[6]] ?_);refine WA.so rfl (SO.ofYd (Yd.l1 rfl (Rd.own (k := 1) rfl rfl))) rfl (zs ⟨fun _ hI => hI.tail.tail, ?_⟩);refine WA.so rfl (SO.makes (Enters.func Tryz.call227 rfl) (fun w1 hI => vA d.book (⟨(gt ls 0), kd, (gt ls 1)⟩ : Ent) b.a _ b.c _ hd.book hd.len.2.2 w1 hI.imm)) rfl ?_;rintro _ D8 _ ⟨hX8, ⟨a2, c2, rfl, hS2, hc2⟩, rfl⟩;replace hL := hL.ext hX8;have hd8 := hd.ext hX8;refine ⟨fun _ hI => hI.tail.tail.shrink hX8.old, ?_⟩;refine g [[3]] ?_;refine WA.so rfl (SO.store 1 rfl SzF.h rfl rfl rfl rfl (zqb rfl) (za rfl)) rfl ?_;rintro _ _ _ ⟨rfl, rfl, rfl⟩;refine ⟨fun _ hI => hI.tail.tail.shrink hX8.old, ?_⟩;refine g [[4],[8,0]] ?_;refine WL.know 57 (it ((d.book.length : Int) + 1)) rfl (by rw [List.length_append]; rfl) (g [[1]] ?_);refine WL.know 58 (it (d.book.length : Int)) rfl (by rw [show (d.book.length : Int) + 1 - 1 = d.book.length by omega]) (g [[1]] ?_);refine WL.so (SO.buildSlice1 UnF.h SzF.h ZvF.h rfl rfl rfl (vs := [_, _]) rfl rfl rfl) rfl ?_;rintro _ _ _ ⟨b60, hb60, rfl, rfl, rfl⟩;refine WL.freezeN 0 b60 (.cells (List.toArray ([Pt.s uJ, Pt.n (d.book.length : Int)].flatMap ptI ++ [])) 20 (0, 0)) rfl rfl hb60 (fun D9 hX9 h60 => ?_);refine WL.cl rfl (fun w hI => xK [Pt.s uJ, Pt.n (d.book.length : Int)] (some ⟨b60, 0, none⟩) 2 2 D9 (hL.ext hX9) (SlL.ofBlock yu h60) (by decide) (by intro p hp; simp only [List.mem_cons, List.not_mem_nil, or_false] at hp; rcases hp with rfl | rfl; exact (show List.length _ ≤ 100 by decide); exact (by unfold ptB; unfold i64B; omega)) _ hI.imm) (g [[5]] ?_);refine WP.retMs [Dn] [(xb, _)] [_] [_] rfl rfl zU1 zU2 rfl zV (fun w1 hI => ⟨D9, _, (hXa.trans hX8 (Nat.le_refl _)).trans hX9 (Nat.le_refl _), hI, .inl ⟨_, rfl, by rw [yA, if_neg (by dsimp only; omega), if_neg (by rw [hbf]; simp)]; exact ⟨rfl, by rw [← xa _ [_]]; rfl, t, l, ⟨a2, d.book.length + 1, c2⟩, Wg, X8 (hd8.ext hX9) (hS2.ext hX9) hc2 (by have := wx hdo; omega)⟩⟩⟩)
    rintro Dn ch D6 _ hsz hX6 ⟨rfl, rfl, hbt⟩;refine g [[2]] ?_;exact WP.panicMs [Dn] [] rfl zU1 zU2 (fun w1 hI => ⟨_, _, DExt.lent hxn (hX2.trans hX6 (Nat.le_refl _)), hI.thawS (hX6.old _ _ hxD2) (.inl (by simp)), .inr ⟨_, rfl, by rw [yA, if_neg (by dsimp only; omega), if_pos hbt]; exact ⟨by simp [errD], rfl, rfl⟩⟩⟩)
  try simp only [zq] at g17
  refine WL.nf rfl (fun w hI => zy _ _) (g [[1]] ?_);exact WP.panicMs [] [] rfl zU1 zU2 (fun w1 hI => ⟨_, _, DExt.lent hxn (DExt.refl _ _), hI.thawS hxD (.inl (by simp)), .inr ⟨_, rfl, by rw [yA, if_pos (by dsimp only; omega)]; exact ⟨by simp [errD], rfl, rfl⟩⟩⟩)
end
def DoX (x : Wick) (f : FuncId) (cap : List Value) (K : Nat) (R : Day → List Int → Rep) (D0 : Imm) : Prop :=
  (∀ args w, (callFunc f args).run Tryz.prog w = .ok (.enter f args) w) ∧
  ∀ (d : Day) (m s t l b : Sl) (xb : Nat) (D : Imm) (w : World), (∀ b o, D0 b = some o → D b = some o) → zS x = true → zT x d → yG D x m s → DayR D d t l b → LibW D → ∀ (ls : List Int) (al : Option Addr) (nl cl : Nat), SlL D 1 (ls.map intC) al nl → ls.length = K → nl ≤ 1000 → Inv D [(xb, womO x m s t l b)] [xb] w w →
    yl Tryz.prog f ([pt xb, .slice al nl cl] ++ cap) w D [xb] (PutK x m s xb (R d ls)) (PutC x m s t l b xb (R d ls))
theorem vV {x : Wick} {d : Day} {m s t l b : Sl} {xb : Nat} {D : Imm} {w : World} {f : FuncId} {A : List Value} {r : Rep} (hd : DayR D d t l b) (hI : Inv D [(xb, womO x m s t l b)] [xb] w w) (hr : r.1 = d) (h : Calls Tryz.prog f A.toArray w fun e w' => AskK w r e w') :
    yl Tryz.prog f A w D [xb] (PutK x m s xb r) (PutC x m s t l b xb r) := by
  refine h.mono fun e w' ⟨hk, he⟩ => ⟨D, [(xb, womO x m s t l b)], DExt.refl _ _, hI.grow hk (hI.imm.keep hk) (DExt.refl _ _), ?_⟩;rcases he with ⟨h0, rfl⟩ | ⟨h0, rfl⟩
  · exact .inl ⟨_, rfl, h0, rfl, t, l, b, rfl, by rw [hr]; exact hd⟩
  exact .inr ⟨_, rfl, h0, rfl, rfl⟩
theorem ya (d : Day) (s : Bs) (r : List Int) (e : Int) : (askD d s r e).1 = d := by unfold askD errD; split <;> rfl
theorem wb {D : Imm} {xb : Nat} {o : Obj} {w : World} (hI : Inv D [(xb, o)] [xb] w w) : D xb = none ∧ w.heap[xb]? = some o := ⟨hI.apart _ _ (List.mem_singleton.2 rfl), hI.own _ _ (List.mem_singleton.2 rfl)⟩
section
variable (x : Wick) (D0 : Imm)
include x D0
theorem QV : DoX x 153 [] 1 (fun d ls => doD x d yF ls) D0 :=
  ⟨fun _ _ => Tryz.call153 _ _, fun d m s t l b xb D w _ hw hdo hW hd hL ls al nl cl hls hnl hll hI => vV hd hI (by dsimp only; rw [kk]; exact ya _ _ _ _) (zbq x d m s t l b xb D w hw hdo hW hd hL hI.imm (wb hI).1 (wb hI).2 ls al nl cl hls hnl hll)⟩
theorem VC : DoX x 154 [] 1 (fun d ls => doD x d y3 ls) D0 :=
  ⟨fun _ _ => Tryz.call154 _ _, fun d m s t l b xb D w _ hw hdo hW hd hL ls al nl cl hls hnl hll hI => vV hd hI (by dsimp only; rw [qi]; exact ya _ _ _ _) (Kc x d m s t l b xb D w hw hdo hW hd hL hI.imm (wb hI).1 (wb hI).2 ls al nl cl hls hnl hll)⟩
theorem Vz : DoX x 156 [] 2 (fun d ls => doD x d zz ls) D0 :=
  ⟨fun _ _ => Tryz.call156 _ _, fun d m s t l b xb D w _ hw hdo hW hd hL ls al nl cl hls hnl hll hI => vV hd hI (by dsimp only; rw [qf]; exact ya _ _ _ _) (QO x d m s t l b xb D w hw hdo hW hd hL hI.imm (wb hI).1 (wb hI).2 ls al nl cl hls hnl hll)⟩
theorem QQ : DoX x 158 [] 0 (fun d ls => doD x d yp ls) D0 :=
  ⟨fun _ _ => Tryz.call158 _ _, fun d m s t l b xb D w _ hw hdo hW hd hL ls al nl cl hls hnl hll hI => vV hd hI (by dsimp only; rw [ki]; exact (by split; rfl; exact ya _ _ _ _)) (za3 x d m s t l b xb D w hw hdo hW hd hL hI.imm (wb hI).1 (wb hI).2 ls al nl cl hls hnl hll)⟩
theorem zac : DoX x 159 [] 0 (fun d ls => doD x d sumS ls) D0 :=
  ⟨fun _ _ => Tryz.call159 _ _, fun d m s t l b xb D w _ hw hdo hW hd hL ls al nl cl hls hnl hll hI => vV hd hI (by dsimp only; rw [Xg]; exact ya _ _ _ _) (zda x d m s t l b xb D w hw hdo hW hd hL hI.imm (wb hI).1 (wb hI).2 ls al nl cl hls hnl hll)⟩
theorem QU : DoX x 151 [] 5 (fun d ls => doD x d zo ls) D0 :=
  ⟨fun _ _ => Tryz.call151 _ _, fun d m s t l b xb D w _ hw hdo hW hd hL ls al nl cl hls hnl hll hI => zba x d m s t l b xb D w hw hdo hW hd hL ls al nl cl hls hnl hll hI⟩
theorem QT : DoX x 152 [] 4 (fun d ls => doD x d yk ls) D0 :=
  ⟨fun _ _ => Tryz.call152 _ _, fun d m s t l b xb D w _ hw hdo hW hd hL ls al nl cl hls hnl hll hI => zaH x d m s t l b xb D w hw hdo hW hd hL ls al nl cl hls hnl hll hI⟩
theorem zab (bk : Nat) (hbk : D0 bk = some (.cells (List.toArray [.iface 218 (.agg #[it 1])]) 220 (0, 0))) : DoX x 225 [pt bk] 1 (fun d ls => doD x d payS ls) D0 :=
  ⟨fun _ _ => Tryz.call225 _ _, fun d m s t l b xb D w hDD hw hdo hW hd hL ls al nl cl hls hnl hll hI => by
    have := Zi x d m s t l b xb D w hw hdo hW hd hL ls al nl cl hls hnl hll hI 1 bk (hDD _ _ hbk);dsimp only;rw [VB];exact this⟩
theorem QR (bk : Nat) (hbk : D0 bk = some (.cells (List.toArray [.iface 218 (.agg #[it 2])]) 220 (0, 0))) : DoX x 225 [pt bk] 1 (fun d ls => doD x d xw ls) D0 :=
  ⟨fun _ _ => Tryz.call225 _ _, fun d m s t l b xb D w hDD hw hdo hW hd hL ls al nl cl hls hnl hll hI => by
    have := Zi x d m s t l b xb D w hw hdo hW hd hL ls al nl cl hls hnl hll hI 2 bk (hDD _ _ hbk);dsimp only;rw [Yr];exact this⟩
theorem QP (bk : Nat) (hbk : D0 bk = some (.cells (List.toArray [.iface 222 (.agg #[it 3])]) 220 (0, 0))) : DoX x 225 [pt bk] 2 (fun d ls => doD x d xE ls) D0 :=
  ⟨fun _ _ => Tryz.call225 _ _, fun d m s t l b xb D w hDD hw hdo hW hd hL ls al nl cl hls hnl hll hI => by
    have := Vr x d m s t l b xb D w hw hdo hW hd hL ls al nl cl hls hnl hll hI 3 bk (hDD _ _ hbk);dsimp only;rw [Yq];exact this⟩
end
theorem zdL : zj Tryz.prog 123 [.int .i64 0, .nilFunc] [(0, 1), (1, 1)] := ⟨⟨_, Tryz.zeroValue123, rfl⟩, _, Tryz.underlying123, fun w => by simp [Tryz.sizeOf3, Tryz.sizeOf121]⟩
abbrev zbC := SaF.mk zdL
attribute [instance] zbC
theorem zdV : zj Tryz.prog 218 [.int .i64 0] [(0, 1)] := ⟨⟨_, Tryz.zeroValue218, rfl⟩, _, Tryz.underlying218, fun w => by simp [Tryz.sizeOf3]⟩
abbrev zbM := SaF.mk zdV
attribute [instance] zbM
theorem zdW : zj Tryz.prog 222 [.int .i64 0] [(0, 1)] := ⟨⟨_, Tryz.zeroValue222, rfl⟩, _, Tryz.underlying222, fun w => by simp [Tryz.sizeOf218]⟩
abbrev zbN := SaF.mk zdW
attribute [instance] zbN
def wdV (n : Int) (f : Value) : Value := .agg #[it n, f]
def w9L : List (Bs × Value) := [(zo, wdV 5 (.func (.func 151) #[] #[])), (yk, wdV 4 (.func (.func 152) #[] #[])), (yF, wdV 1 (.func (.func 153) #[] #[])), (y3, wdV 1 (.func (.func 154) #[] #[])), (yN, wdV 2 (.func (.func 155) #[] #[])), (zz, wdV 2 (.func (.func 156) #[] #[])), (y9, wdV 3 (.func (.func 157) #[] #[])), (yp, wdV 0 (.func (.func 158) #[] #[])), (sumS, wdV 0 (.func (.func 159) #[] #[]))]
def entN (k : Nat) : Bs := match k with | 1 => payS | 2 => xw | 3 => xE | _ => []
def entI (k : Nat) : Value := if k = 3 then .iface 222 (.agg #[nt k]) else .iface 218 (.agg #[nt k])
def bkV (b : Nat) : Value := .func (.func 225) #[] #[pt b]
def entW (b : Nat → Nat) : Nat → List (Bs × Value)
  | 0 => []
  | k + 1 => entW b k ++ if k = 0 then [] else [(entN k, wdV (if k = 3 then 2 else 1) (bkV (b k)))]
theorem VE {b c : Nat → Nat} : ∀ {k : Nat}, (∀ j, j < k → b j = c j) → entW b k = entW c k
  | 0, _ => rfl
  | k + 1, h => by rw [entW, entW, VE (fun j hj => h j (by omega)), h k (by omega)]
theorem VF {b : Nat → Nat} {k : Nat} (h1 : 1 ≤ k) (h3 : k < 4) : entN k ∉ (w9L ++ entW b k).map (·.1) := by
  match k, h1, h3 with
  | 1, _, _ => show payS ∉ [zo, yk, yF, y3, yN, zz, y9, yp, sumS]; decide
  | 2, _, _ => show xw ∉ [zo, yk, yF, y3, yN, zz, y9, yp, sumS, payS]; decide
  | 3, _, _ => show xE ∉ [zo, yk, yF, y3, yN, zz, y9, yp, sumS, payS, xw]; decide
theorem Xh (k : Nat) : (entN k).length ≤ 2 ^ 40 := by
  unfold entN; split <;> decide
def EntH (b : Nat → Nat) (D : Imm) (k : Nat) : Prop := ∀ j, 1 ≤ j → j < k → D (b j) = some (.cells (List.toArray [entI j]) 220 (0, 0))
def updB (b : Nat → Nat) (k v : Nat) : Nat → Nat := fun j => if j = k then v else b j
theorem QZ {b : Nat → Nat} {k v : Nat} : entW (updB b k v) (k + 1) = entW b k ++ if k = 0 then [] else [(entN k, wdV (if k = 3 then 2 else 1) (bkV v))] := by
  rw [entW, VE (c := b) (fun j hj => by unfold updB; rw [if_neg (by omega)])];unfold updB; rw [if_pos rfl]
theorem EntH.upd {b : Nat → Nat} {D D' : Imm} {k v : Nat} {w : World} (h : EntH b D k) (hX : DExt w D D') (hv : D' v = some (.cells (List.toArray [entI k]) 220 (0, 0))) : EntH (updB b k v) D' (k + 1) := fun j h1 h2 => by
  unfold updB;by_cases e : j = k
  · subst e; rw [if_pos rfl]; exact hv
  rw [if_neg e]; exact hX.old _ _ (h j h1 (by omega))
theorem Kh {es : Array MapEntry} {b : Nat → Nat} {k v : Nat} {u : Value} (h1 : 1 ≤ k) (hn : wdV (if k = 3 then 2 else 1) (bkV v) = u) (h : AL es ((w9L ++ entW b k) ++ [(entN k, u)])) : AL es (w9L ++ entW (updB b k v) (k + 1)) := by
  rw [QZ, if_neg (by omega), hn, ← List.append_assoc]; exact h
theorem strK : Go.Maps.Keyed Tryz.prog 9 := Go.Maps.Keyed.of_law (WideMaps.string_law Tryz.underlying9)
theorem WJ (k : Int) (w : World) : z8 Tryz.prog 340 [.agg #[it k]] w (it 1) := by
  unfold z8;refine en Tryz.func340 rfl Tryz.ntmps340 zI (g [[1],[1,0]] ?_);refine WL.so (SO.box rfl rfl) rfl (zw fun b1 hb1 => ?_);refine g [[4],[5,2]] ?_;refine WP.ret1 rfl rfl rfl (RV.tmp rfl) (fun w hI => ⟨rfl, hI.keep⟩)
theorem WK (k : Int) (w : World) : z8 Tryz.prog 342 [.agg #[it k]] w (it 2) := by
  unfold z8;refine en Tryz.func342 rfl Tryz.ntmps342 zI (g [[1],[1,0]] ?_);refine WL.so (SO.box rfl rfl) rfl (zw fun b1 hb1 => ?_);refine g [[4],[5,2]] ?_;refine WP.ret1 rfl rfl rfl (RV.tmp rfl) (fun w hI => ⟨rfl, hI.keep⟩)
theorem Zj (t : TypeId) (u : Value) (D : Imm) (w : World) (hH : Holds D w) : y6 Tryz.prog 160 [.iface t u] w D (fun v D' => ∃ bk, v = bkV bk ∧ D' bk = some (.cells (List.toArray [.iface t u]) 220 (0, 0))) := by
  unfold y6;refine en Tryz.func160 rfl Tryz.ntmps160 (Inv.start hH) (g [[1],[1,0]] ?_);refine WL.so (SO.box rfl rfl) rfl (zw fun b1 hb1 => ?_);refine g [[4]] ?_;refine WC.freezeN 0 b1 (.cells (List.toArray [.iface t u]) 220 (0, 0)) rfl rfl hb1 (fun D1 hX1 h1 => ?_)
  
  refine g [[6,2,1]] ?_;refine WP.ret1 rfl rfl rfl (RV.tmp rfl) (fun w1 hI => ⟨_, D1, rfl, hI.keep, hI.imm, hX1, b1, rfl, h1⟩)
theorem Z9 (D : Imm) (hL : LibW D) (w : World) (hH : Holds D w) : y6 Tryz.prog 73 [] w D (fun v D' => ∃ bm es ck bq, v = .map (some bm) ∧ D' bm = some (.map es ck) ∧ AL es (w9L ++ entW bq 4) ∧ EntH bq D' 4) := by
  unfold y6;obtain ⟨mt, mfz, hmk⟩ := hL.ents;refine en Tryz.func73 rfl Tryz.ntmps73 (Inv.start hH) (g [[1]] ?_);refine WC.ofFr [] trivial (g [[5],[1,0]] ?_);refine WL.so SO.makeMap rfl ?_;rintro _ _ _ ⟨b5, hb5, rfl, rfl, rfl⟩;refine g [[1]] ?_;refine WL.so (SO.insA (j := 0) strK UnF.h UnF.h rfl (y := zo) (by decide) rfl rfl rfl AL.nil (G := []) (by decide)) rfl ?_;rintro _ _ _ ⟨rfl, es1, ck1, rfl, hM1⟩;have hM := hM1;clear hM1;refine g [[1]] ?_;refine WL.so (SO.insA (j := 0) strK UnF.h UnF.h rfl (y := yk) (by decide) rfl rfl rfl hM (G := [(zo, wdV 5 (.func (.func 151) #[] #[]))]) (by decide)) rfl ?_;rintro _ _ _ ⟨rfl, es1, ck1, rfl, hM1⟩;clear hM;have hM := hM1;clear hM1;refine g [[1]] ?_;refine WL.so (SO.insA (j := 0) strK UnF.h UnF.h rfl (y := yF) (by decide) rfl rfl rfl hM (G := [(zo, wdV 5 (.func (.func 151) #[] #[])), (yk, wdV 4 (.func (.func 152) #[] #[]))]) (by decide)) rfl ?_;rintro _ _ _ ⟨rfl, es1, ck1, rfl, hM1⟩;clear hM;have hM := hM1;clear hM1;refine g [[1]] ?_;refine WL.so (SO.insA (j := 0) strK UnF.h UnF.h rfl (y := y3) (by decide) rfl rfl rfl hM (G := [(zo, wdV 5 (.func (.func 151) #[] #[])), (yk, wdV 4 (.func (.func 152) #[] #[])), (yF, wdV 1 (.func (.func 153) #[] #[]))]) (by decide)) rfl ?_;rintro _ _ _ ⟨rfl, es1, ck1, rfl, hM1⟩;clear hM;have hM := hM1;clear hM1;refine g [[1]] ?_;refine WL.so (SO.insA (j := 0) strK UnF.h UnF.h rfl (y := yN) (by decide) rfl rfl rfl hM (G := [(zo, wdV 5 (.func (.func 151) #[] #[])), (yk, wdV 4 (.func (.func 152) #[] #[])), (yF, wdV 1 (.func (.func 153) #[] #[])), (y3, wdV 1 (.func (.func 154) #[] #[]))]) (by decide)) rfl ?_;rintro _ _ _ ⟨rfl, es1, ck1, rfl, hM1⟩;clear hM;have hM := hM1;clear hM1;refine g [[1]] ?_;refine WL.so (SO.insA (j := 0) strK UnF.h UnF.h rfl (y := zz) (by decide) rfl rfl rfl hM (G := [(zo, wdV 5 (.func (.func 151) #[] #[])), (yk, wdV 4 (.func (.func 152) #[] #[])), (yF, wdV 1 (.func (.func 153) #[] #[])), (y3, wdV 1 (.func (.func 154) #[] #[])), (yN, wdV 2 (.func (.func 155) #[] #[]))]) (by decide)) rfl ?_;rintro _ _ _ ⟨rfl, es1, ck1, rfl, hM1⟩;clear hM;have hM := hM1;clear hM1;refine g [[1]] ?_;refine WL.so (SO.insA (j := 0) strK UnF.h UnF.h rfl (y := y9) (by decide) rfl rfl rfl hM (G := [(zo, wdV 5 (.func (.func 151) #[] #[])), (yk, wdV 4 (.func (.func 152) #[] #[])), (yF, wdV 1 (.func (.func 153) #[] #[])), (y3, wdV 1 (.func (.func 154) #[] #[])), (yN, wdV 2 (.func (.func 155) #[] #[])), (zz, wdV 2 (.func (.func 156) #[] #[]))]) (by decide)) rfl ?_;rintro _ _ _ ⟨rfl, es1, ck1, rfl, hM1⟩;clear hM;have hM := hM1;clear hM1;refine g [[1]] ?_;refine WL.so (SO.insA (j := 0) strK UnF.h UnF.h rfl (y := yp) (by decide) rfl rfl rfl hM (G := [(zo, wdV 5 (.func (.func 151) #[] #[])), (yk, wdV 4 (.func (.func 152) #[] #[])), (yF, wdV 1 (.func (.func 153) #[] #[])), (y3, wdV 1 (.func (.func 154) #[] #[])), (yN, wdV 2 (.func (.func 155) #[] #[])), (zz, wdV 2 (.func (.func 156) #[] #[])), (y9, wdV 3 (.func (.func 157) #[] #[]))]) (by decide)) rfl ?_;rintro _ _ _ ⟨rfl, es1, ck1, rfl, hM1⟩;clear hM;have hM := hM1;clear hM1;refine g [[1]] ?_;refine WL.so (SO.insA (j := 0) strK UnF.h UnF.h rfl (y := sumS) (by decide) rfl rfl rfl hM (G := [(zo, wdV 5 (.func (.func 151) #[] #[])), (yk, wdV 4 (.func (.func 152) #[] #[])), (yF, wdV 1 (.func (.func 153) #[] #[])), (y3, wdV 1 (.func (.func 154) #[] #[])), (yN, wdV 2 (.func (.func 155) #[] #[])), (zz, wdV 2 (.func (.func 156) #[] #[])), (y9, wdV 3 (.func (.func 157) #[] #[])), (yp, wdV 0 (.func (.func 158) #[] #[]))]) (by decide)) rfl ?_;rintro _ _ _ ⟨rfl, es1, ck1, rfl, hM1⟩;clear hM;have hM := hM1;clear hM1;refine g [[6],[6,1,0]] ?_;refine WC.loop (fun y : Nat × Imm × Array MapEntry × Nat × (Nat → Nat) => [(1, .map (some b5)), (16, .agg (List.toArray [st [], st payS, st xw, st xE])), (17, nt y.1)]) (fun y => [(b5, .map y.2.2.1 y.2.2.2.1)]) (fun y => y.2.1) (fun y => y.1 ≤ 4 ∧ DExt w D y.2.1 ∧ EntH y.2.2.2.2 y.2.1 y.1 ∧ AL y.2.2.1 (w9L ++ entW y.2.2.2.2 y.1)) (fun y => 4 - y.1) ⟨0, D, es1, ck1, fun _ => 0⟩ ⟨by omega, DExt.refl _ _, fun j h1 h2 => by simp only at h2; omega, hM⟩ (fun a w h => y4 h ⟨rfl, rfl, rfl, trivial⟩) ?_;rintro ⟨k, D1, es, ck, bq⟩ ⟨hk, hX1, hE, hM⟩;dsimp only at hk hX1 hE hM;refine g [[1],[5,1,16,17]] ?_;refine WC.cond rfl (fun c18 => ?_) (fun c18 => ?_)
  · try simp only [zq] at c18
    have hk4 : k < 4 := by omega
    refine g [[5],[2,1,16,17]] ?_;refine WL.yd (Yd.indexV UnF.h AgF.h SzF.h rfl rfl (by omega) (v := st (entN k)) (by match k, hk4 with | 0, _ => rfl | 1, _ => rfl | 2, _ => rfl | 3, _ => rfl)) rfl (g [[6],[5,3,2,1,16,17]] ?_);refine WC.cond rfl (fun c22 => ?_) (fun c22 => ?_)
    · try simp only [zq] at c22
      refine g [[4],[4,1,16,17]] ?_;obtain rfl : k = 0 := by omega
      exact WP.again (⟨1, D1, es, ck, bq⟩ : Nat × Imm × Array MapEntry × Nat × (Nat → Nat)) ⟨by simp only; omega, hX1, fun j h1 h2 => by simp only at h2; omega, hM⟩ (by simp only; omega) (fun aa ww h => zL 0 h ⟨rfl, rfl, rfl, trivial⟩ (List.Perm.refl _))
    try simp only [zq] at c22
    refine g [[3],[9,3,2,1,16,17],[5,4,3,2,1,16,17]] ?_;refine WC.cond rfl (fun c27 => ?_) (fun c27 => ?_)
    · try simp only [zq] at c27
      refine g [[8,4,3,2,1,16,17],[4,4,3,1,16,17]] ?_;refine WL.so (SO.call (Enters.meth CaF.h (fun w => by kernel_rfl) rfl rfl) (fun w hI => WK k _)) rfl (zs (g [[1]] ?_));refine WL.so (SO.makes (Enters.func Tryz.call160 rfl) (fun w1 hI => Zj _ _ _ _ hI.imm)) rfl ?_;rintro _ D2 _ ⟨hX2, ⟨bk, rfl, hbk⟩, rfl⟩;refine g [[1]] ?_;refine WL.so (SO.updA (j := 0) strK UnF.h UnF.h rfl (Xh k) rfl rfl rfl hM (VF (by omega) hk4)) rfl ?_;rintro _ _ _ ⟨rfl, es1, ck1, rfl, hM1⟩;refine g [[3],[4,1,16,17]] ?_;obtain rfl : k = 3 := by omega
      exact WP.again (⟨4, D2, es1, ck1, updB bq 3 bk⟩ : Nat × Imm × Array MapEntry × Nat × (Nat → Nat)) ⟨by simp only; omega, hX1.trans hX2 (Nat.le_refl _), hE.upd hX2 hbk, Kh (by omega) rfl hM1⟩ (by simp only; omega) (fun aa ww h => zL 0 h ⟨rfl, rfl, rfl, trivial⟩ (List.Perm.refl _))
    try simp only [zq] at c27
    refine g [[2],[4,4,3,1,16,17]] ?_;refine WL.so (SO.call (Enters.meth CaF.h (fun w => by kernel_rfl) rfl rfl) (fun w hI => WJ k _)) rfl (zs (g [[1]] ?_));refine WL.so (SO.makes (Enters.func Tryz.call160 rfl) (fun w1 hI => Zj _ _ _ _ hI.imm)) rfl ?_;rintro _ D2 _ ⟨hX2, ⟨bk, rfl, hbk⟩, rfl⟩;refine g [[1]] ?_;refine WL.so (SO.updA (j := 0) strK UnF.h UnF.h rfl (Xh k) rfl rfl rfl hM (VF (by omega) hk4)) rfl ?_;rintro _ _ _ ⟨rfl, es1, ck1, rfl, hM1⟩;refine g [[3],[4,1,16,17]] ?_;exact WP.again (⟨k + 1, D2, es1, ck1, updB bq k bk⟩ : Nat × Imm × Array MapEntry × Nat × (Nat → Nat)) ⟨by simp only; omega, hX1.trans hX2 (Nat.le_refl _), hE.upd hX2 (by dsimp only; rw [hbk]; unfold entI; rw [if_neg (by omega)]; rfl), Kh (by omega) (by rw [if_neg (by omega)]; rfl) hM1⟩ (by simp only; omega) (fun aa ww h => zL 0 h ⟨rfl, rfl, rfl, trivial⟩ (List.Perm.refl _))
  try simp only [zq] at c18
  obtain rfl : k = 4 := by omega
  refine g [[6]] ?_;refine WC.freezeN 0 b5 (.map es ck) rfl rfl hb5 (fun D3 hX3 h5 => ?_);refine g [[6,1]] ?_;refine WP.ret1 rfl rfl rfl (RV.tmp rfl) (fun w1 hI => ⟨_, D3, rfl, hI.keep, hI.imm, hX1.trans hX3 (Nat.le_refl _), b5, es, ck, bq, rfl, h5, hM, fun j h1 h2 => hX3.old _ _ (hE j h1 h2)⟩)
theorem zmB {x : Wick} {bq : Nat → Nat} {D : Imm} (hE : EntH bq D 4) {y : Bs} (hf1 : y ≠ yN) (hf2 : y ≠ y9) {v : Value} (h : (w9L ++ entW bq 4).lookup y = some v) : ∃ (n : Nat) (f : FuncId) (cap : List Value), v = wdV n (.func (.func f) #[] cap.toArray) ∧ vv y = some n ∧ DoX x f cap n (fun d ls => doD x d y ls) D := by
  change List.lookup y [(zo, wdV 5 (.func (.func 151) #[] #[])), (yk, wdV 4 (.func (.func 152) #[] #[])), (yF, wdV 1 (.func (.func 153) #[] #[])), (y3, wdV 1 (.func (.func 154) #[] #[])), (yN, wdV 2 (.func (.func 155) #[] #[])), (zz, wdV 2 (.func (.func 156) #[] #[])), (y9, wdV 3 (.func (.func 157) #[] #[])), (yp, wdV 0 (.func (.func 158) #[] #[])), (sumS, wdV 0 (.func (.func 159) #[] #[])), (payS, wdV 1 (bkV (bq 1))), (xw, wdV 1 (bkV (bq 2))), (xE, wdV 2 (bkV (bq 3)))] = some v at h
  by_cases e0 : y = zo
  · subst e0;rw [List.lookup_cons, beq_self_eq_true] at h;dsimp only at h;cases h
    exact ⟨5, _, [], rfl, by decide, QU x D⟩
  rw [List.lookup_cons, show (y == zo) = false by simpa using e0] at h;dsimp only at h;by_cases e1 : y = yk
  · subst e1;rw [List.lookup_cons, beq_self_eq_true] at h;dsimp only at h;cases h
    exact ⟨4, _, [], rfl, by decide, QT x D⟩
  rw [List.lookup_cons, show (y == yk) = false by simpa using e1] at h;dsimp only at h;by_cases e2 : y = yF
  · subst e2;rw [List.lookup_cons, beq_self_eq_true] at h;dsimp only at h;cases h
    exact ⟨1, _, [], rfl, by decide, QV x D⟩
  rw [List.lookup_cons, show (y == yF) = false by simpa using e2] at h;dsimp only at h;by_cases e3 : y = y3
  · subst e3;rw [List.lookup_cons, beq_self_eq_true] at h;dsimp only at h;cases h
    exact ⟨1, _, [], rfl, by decide, VC x D⟩
  rw [List.lookup_cons, show (y == y3) = false by simpa using e3] at h;dsimp only at h;by_cases e4 : y = yN
  · exact absurd e4 hf1
  rw [List.lookup_cons, show (y == yN) = false by simpa using e4] at h;dsimp only at h;by_cases e5 : y = zz
  · subst e5;rw [List.lookup_cons, beq_self_eq_true] at h;dsimp only at h;cases h
    exact ⟨2, _, [], rfl, by decide, Vz x D⟩
  rw [List.lookup_cons, show (y == zz) = false by simpa using e5] at h;dsimp only at h;by_cases e6 : y = y9
  · exact absurd e6 hf2
  rw [List.lookup_cons, show (y == y9) = false by simpa using e6] at h;dsimp only at h;by_cases e7 : y = yp
  · subst e7;rw [List.lookup_cons, beq_self_eq_true] at h;dsimp only at h;cases h
    exact ⟨0, _, [], rfl, by decide, QQ x D⟩
  rw [List.lookup_cons, show (y == yp) = false by simpa using e7] at h;dsimp only at h;by_cases e8 : y = sumS
  · subst e8;rw [List.lookup_cons, beq_self_eq_true] at h;dsimp only at h;cases h
    exact ⟨0, _, [], rfl, by decide, zac x D⟩
  rw [List.lookup_cons, show (y == sumS) = false by simpa using e8] at h;dsimp only at h;by_cases e9 : y = payS
  · subst e9;rw [List.lookup_cons, beq_self_eq_true] at h;dsimp only at h;cases h
    exact ⟨1, _, [pt (bq 1)], rfl, by decide, zab x D (bq 1) (hE 1 (by omega) (by omega))⟩
  rw [List.lookup_cons, show (y == payS) = false by simpa using e9] at h;dsimp only at h;by_cases e10 : y = xw
  · subst e10;rw [List.lookup_cons, beq_self_eq_true] at h;dsimp only at h;cases h
    exact ⟨1, _, [pt (bq 2)], rfl, by decide, QR x D (bq 2) (hE 2 (by omega) (by omega))⟩
  rw [List.lookup_cons, show (y == xw) = false by simpa using e10] at h;dsimp only at h;by_cases e11 : y = xE
  · subst e11;rw [List.lookup_cons, beq_self_eq_true] at h;dsimp only at h;cases h
    exact ⟨2, _, [pt (bq 3)], rfl, by decide, QP x D (bq 3) (hE 3 (by omega) (by omega))⟩
  rw [List.lookup_cons, show (y == xE) = false by simpa using e11] at h;dsimp only at h;cases h
theorem Qm {bq : Nat → Nat} {y : Bs} (h : (w9L ++ entW bq 4).lookup y = none) : vv y = none := by
  have hne : ∀ s v, (s, v) ∈ [(zo, wdV 5 (.func (.func 151) #[] #[])), (yk, wdV 4 (.func (.func 152) #[] #[])), (yF, wdV 1 (.func (.func 153) #[] #[])), (y3, wdV 1 (.func (.func 154) #[] #[])), (yN, wdV 2 (.func (.func 155) #[] #[])), (zz, wdV 2 (.func (.func 156) #[] #[])), (y9, wdV 3 (.func (.func 157) #[] #[])), (yp, wdV 0 (.func (.func 158) #[] #[])), (sumS, wdV 0 (.func (.func 159) #[] #[])), (payS, wdV 1 (bkV (bq 1))), (xw, wdV 1 (bkV (bq 2))), (xE, wdV 2 (bkV (bq 3)))] → y ≠ s := by
    rintro s v hm rfl
    change List.lookup y [(zo, wdV 5 (.func (.func 151) #[] #[])), (yk, wdV 4 (.func (.func 152) #[] #[])), (yF, wdV 1 (.func (.func 153) #[] #[])), (y3, wdV 1 (.func (.func 154) #[] #[])), (yN, wdV 2 (.func (.func 155) #[] #[])), (zz, wdV 2 (.func (.func 156) #[] #[])), (y9, wdV 3 (.func (.func 157) #[] #[])), (yp, wdV 0 (.func (.func 158) #[] #[])), (sumS, wdV 0 (.func (.func 159) #[] #[])), (payS, wdV 1 (bkV (bq 1))), (xw, wdV 1 (bkV (bq 2))), (xE, wdV 2 (bkV (bq 3)))] = none at h
    rw [List.lookup_eq_none_iff] at h;exact absurd (h _ hm) (by simp)
  unfold vv;rw [if_neg (hne zo _ (by repeat (first | exact List.mem_cons_self | apply List.mem_cons_of_mem)))]; rw [if_neg (hne yk _ (by repeat (first | exact List.mem_cons_self | apply List.mem_cons_of_mem)))]; rw [if_neg (hne yF _ (by repeat (first | exact List.mem_cons_self | apply List.mem_cons_of_mem)))]; rw [if_neg (hne y3 _ (by repeat (first | exact List.mem_cons_self | apply List.mem_cons_of_mem)))]; rw [if_neg (hne yN _ (by repeat (first | exact List.mem_cons_self | apply List.mem_cons_of_mem)))]; rw [if_neg (hne zz _ (by repeat (first | exact List.mem_cons_self | apply List.mem_cons_of_mem)))]; rw [if_neg (hne y9 _ (by repeat (first | exact List.mem_cons_self | apply List.mem_cons_of_mem)))]; rw [if_neg (hne yp _ (by repeat (first | exact List.mem_cons_self | apply List.mem_cons_of_mem)))]; rw [if_neg (hne sumS _ (by repeat (first | exact List.mem_cons_self | apply List.mem_cons_of_mem)))]; rw [if_neg (hne payS _ (by repeat (first | exact List.mem_cons_self | apply List.mem_cons_of_mem)))]; rw [if_neg (hne xw _ (by repeat (first | exact List.mem_cons_self | apply List.mem_cons_of_mem)))]; rw [if_neg (hne xE _ (by repeat (first | exact List.mem_cons_self | apply List.mem_cons_of_mem)))]
def tkO (a : Option Addr) (n c : Nat) : Obj := .cells (List.toArray [.slice a n c]) 129 (0, 0)
def strC (p : Bs) : List Value := [st p]
def NumK (s : Bs) (tb : Nat) (a : Option Addr) (n c : Nat) (v : Value) (D' : Imm) (hp' : Hp) : Prop := (∃ z, Go.Ti.numP s = some z ∧ v = it z) ∧ hp' = [(tb, tkO (u6 a c 1 1) (n - 1) (c - 1))]
def NumC (s : Bs) (ch : List PanicEntry) (_ : Imm) (_ : Hp) : Prop := Go.Ti.numP s = none ∧ ch = jA 8
theorem zcI {s : Bs} (h : ∀ v, Lib.atoiAll s ≠ .ok v) : Go.Ti.numP s = none := by
  unfold Go.Ti.numP;split
  · rename_i v e; exact absurd e (h v)
  rfl
theorem XI {s : Bs} {v : Int} (h : Lib.atoiAll s = .ok v) : Go.Ti.numP s = if 0 ≤ v ∧ s.length ≤ 6 ∧ Lib.itoa v = s then some v else none := by unfold Go.Ti.numP; rw [h]
theorem QA {s : Bs} {v : Int} (h : Lib.atoiAll s = .ok v) : i64B v := by
  unfold Lib.atoiAll at h;unfold i64B;split at h
  · cases h
  dsimp only at h;split at h
  · cases h
  · cases h
  split at h
  · cases h
  split at h
  · cases h
  cases h
  split <;> omega
theorem XW (s : Bs) (c : UInt8) (hs : s.length ≤ 2 ^ 20) (D : Imm) (hL : LibW D) (w : World) (hH : Holds D w) : y6 Tryz.prog 72 [st s, st [c]] w D (fun v D' => ∃ a n cp, v = .slice a n cp ∧ n ≤ cp ∧ SlL D' 1 ((Lib.split s [c]).map fun p => [st p]) a n) := by
  obtain ⟨m, hm⟩ := hL.max hH;refine (Any.strings_Split zay zk ⟨s.toArray⟩ ⟨List.toArray [c]⟩ m w (by rw [wk]; omega) hm (by rw [wk]; simp)).mono fun e' w' ⟨h1, h2⟩ => ?_;subst h2;have hI := (Inv.start hH).new (.cells ((Lib.splitB ⟨List.toArray [c]⟩ 0 (Lib.countB ⟨s.toArray⟩ ⟨List.toArray [c]⟩) ⟨s.toArray⟩).map Value.string).toArray 9)
  have hlen : (Lib.split s [c]).length = Lib.countB ⟨s.toArray⟩ ⟨List.toArray [c]⟩ + 1 := by
    have := Lib.splitB_all ⟨List.toArray [c]⟩ (by rw [wk]; simp) 0 _ ⟨s.toArray⟩ rfl;have h3 := congrArg List.length (Lib.splitB_data ⟨List.toArray [c]⟩ 0 (Lib.countB ⟨s.toArray⟩ ⟨List.toArray [c]⟩) ⟨s.toArray⟩);rw [List.length_map, this] at h3;exact h3.symm
  have hd : (Lib.splitB ⟨List.toArray [c]⟩ 0 (Lib.countB ⟨s.toArray⟩ ⟨List.toArray [c]⟩) ⟨s.toArray⟩).map Value.string = ((Lib.split s [c]).flatMap fun p => [st p]) ++ [] := by
    have h3 := Lib.splitB_data ⟨List.toArray [c]⟩ 0 (Lib.countB ⟨s.toArray⟩ ⟨List.toArray [c]⟩) ⟨s.toArray⟩;have h4 : Lib.split s [c] = (Lib.splitB ⟨List.toArray [c]⟩ 0 (Lib.countB ⟨s.toArray⟩ ⟨List.toArray [c]⟩) ⟨s.toArray⟩).map (·.data.toList) := h3.symm;rw [h4, List.append_nil]
    induction (Lib.splitB ⟨List.toArray [c]⟩ 0 (Lib.countB ⟨s.toArray⟩ ⟨List.toArray [c]⟩) ⟨s.toArray⟩) with
    | nil => rfl
    | cons x l ih => rw [List.map_cons, List.map_cons, List.flatMap_cons, ← ih]; rfl
  refine ⟨_, _, h1, hI.keep, hI.freeze.imm, ?_, ?_⟩
  · exact (DExt.refl w D).add (hI.apart _ _ (List.mem_cons_self)) (Nat.le_refl _)
  exact ⟨_, _, _, rfl, Nat.le_refl _, by rw [← hlen]; exact SlL.ofBlock (rest := []) (fun _ => rfl) (by rw [← hd]; exact Imm.add_self _ _ _)⟩
section
variable (tb : Nat) (ss : List Bs) (a : Option Addr) (n c : Nat) (D : Imm) (w : World) (hL : LibW D) (hS : SlL D 1 (ss.map strC) a n) (h1 : 1 ≤ n) (hc : n ≤ c) (hl : (gt ss 0).length ≤ 2 ^ 20) (hI0 : Inv D [(tb, tkO a n c)] [tb] w w)
include tb ss a n c D w hL hS h1 hc hl hI0
theorem Uk (v : Int) (hv : Lib.atoiAll (gt ss 0) = .ok v) : yl Tryz.prog 161 [pt tb] w D [tb] (NumK (gt ss 0) tb a n c) (NumC (gt ss 0)) := by
  unfold yl;refine en Tryz.func161 rfl Tryz.ntmps161 hI0 (g [[1],[5,0],[5,2,0]] ?_);refine WL.yd (Yd.ix rfl rfl (hS.addr 0 (by omega))) rfl (WL.yd (Yd.l1 rfl ((hS.at 0 (by omega)).rd 0 rfl)) rfl (g [[4],[6,3,2,0]] ?_));refine WL.yd (Yd.sliceFrom (k := 1) Tryz.underlying37 Tryz.sizeOf9 rfl rfl (by omega)) rfl (g [[6],[2,3,2]] ?_);refine WL.cl rfl (fun w hI => za0 _ (by omega) v hv _) (g [[8],[2,5,4,3,2]] ?_);refine WL.yd (Yd.eqlNilNil UnF.h rfl) rfl (g [[5]] ?_);refine WL.part 31 rfl (fun g31 => ?_) (fun g31 => ?_)
  · try simp only [zq] at g31
    refine g [[1]] ?_;refine WL.ydg rfl (Yd.lenStr rfl Tryz.underlying9 rfl) rfl (g [[3]] ?_);refine WL.part 36 rfl (fun g36 => ?_) (fun g36 => ?_)
    · try simp only [zq] at g36
      refine g [[1]] ?_;refine WL.sog rfl (SO.callP CaF.h rfl (fun w hI => Xw v (QA hv) D hL _ hI.imm)) rfl (zs (g [[1]] ?_));refine WL.ydg rfl (Yd.eqS' rfl rfl) rfl (g [[1]] ?_);refine WL.part 41 rfl (fun g41 => ?_) (fun g41 => ?_)
      · try simp only [zq] at g41
        refine WL.cl rfl (fun w hI => zB _ _) (g [[3],[6,4,2]] ?_);refine WP.ret1 rfl rfl rfl (RV.tmp rfl) (fun w1 hI => ⟨D, [_], DExt.refl _ _, hI, .inl ⟨_, rfl, ⟨v, by rw [XI hv, if_pos ⟨by omega, by omega, by assumption⟩], rfl⟩, rfl⟩⟩)
      try simp only [zq] at g41
      refine WL.nf rfl (fun w hI => zy _ _) (g [[1]] ?_);exact WP.panicBody rfl (fun w1 hI => ⟨D, [_], DExt.refl _ _, hI, .inr ⟨_, rfl, by rw [XI hv, if_neg]; rintro ⟨k1, k2, k3⟩; first | exact g41 k3 | omega, rfl⟩⟩)
    try simp only [zq] at g36
    refine g [[5]] ?_;refine WL.nf rfl (fun w hI => zy _ _) (g [[1]] ?_);exact WP.panicBody rfl (fun w1 hI => ⟨D, [_], DExt.refl _ _, hI, .inr ⟨_, rfl, by rw [XI hv, if_neg]; rintro ⟨k1, k2, k3⟩; first | exact g41 k3 | omega, rfl⟩⟩)
  try simp only [zq] at g31
  refine g [[10]] ?_;refine WL.nf rfl (fun w hI => zy _ _) (g [[1]] ?_);exact WP.panicBody rfl (fun w1 hI => ⟨D, [_], DExt.refl _ _, hI, .inr ⟨_, rfl, by rw [XI hv, if_neg]; rintro ⟨k1, k2, k3⟩; first | exact g41 k3 | omega, rfl⟩⟩)
theorem Uj (hv : ∀ v, Lib.atoiAll (gt ss 0) ≠ .ok v) : yl Tryz.prog 161 [pt tb] w D [tb] (NumK (gt ss 0) tb a n c) (NumC (gt ss 0)) := by
  unfold yl;refine en Tryz.func161 rfl Tryz.ntmps161 hI0 (g [[1],[5,0],[5,2,0]] ?_);refine WL.yd (Yd.ix rfl rfl (hS.addr 0 (by omega))) rfl (WL.yd (Yd.l1 rfl ((hS.at 0 (by omega)).rd 0 rfl)) rfl (g [[4],[6,3,2,0]] ?_));refine WL.yd (Yd.sliceFrom (k := 1) Tryz.underlying37 Tryz.sizeOf9 rfl rfl (by omega)) rfl (g [[6],[2,3,2]] ?_);refine WL.so (SO.news (Enters.func CaF.h rfl) (fun w hI => KZ _ (by omega) hv D hL w hI.imm)) rfl ?_;rintro _ D1 _ ⟨_, hX1, ⟨rfl, z, tt, p, rfl⟩, rfl⟩;refine g [[8],[2,5,4,3,2]] ?_;refine WL.yd (Yd.eqlNil UnF.h rfl) rfl (g [[15]] ?_);refine WL.nf rfl (fun w hI => zy _ _) (g [[1]] ?_);exact WP.panicBody rfl (fun w1 hI => ⟨D1, [_], hX1, hI, .inr ⟨_, rfl, zcI hv, rfl⟩⟩)
end
theorem YB {α : Type} [Inhabited α] (l : List α) (k : Nat) : gt (l.drop k) 0 = gt l k := by simp [gt, List.getD]
theorem Js (tb : Nat) (ss : List Bs) (a : Option Addr) (n c : Nat) (D : Imm) (w : World) (hL : LibW D) (hS : SlL D 1 (ss.map strC) a n) (h1 : 1 ≤ n) (hc : n ≤ c) (hl : (gt ss 0).length ≤ 2 ^ 20) (hI0 : Inv D [(tb, tkO a n c)] [tb] w w) : yl Tryz.prog 161 [pt tb] w D [tb] (NumK (gt ss 0) tb a n c) (NumC (gt ss 0)) := by
  by_cases h : ∃ v, Lib.atoiAll (gt ss 0) = .ok v
  · obtain ⟨v, hv⟩ := h;exact Uk tb ss a n c D w hL hS h1 hc hl hI0 v hv
  exact Uj tb ss a n c D w hL hS h1 hc hl hI0 (fun v e => h ⟨v, e⟩)
theorem Ul {s : Bs} : ∀ {ss : List Bs}, s ∈ ss → Go.Ti.numP s = none → numsL ss = none
  | x :: ss, h, hn => by
    rcases List.mem_cons.1 h with rfl | h
    · rw [numsL, hn]; rfl
    rw [numsL, Ul h hn];cases Go.Ti.numP x <;> rfl
theorem ZQ {s : Bs} {v : Int} (hv : Go.Ti.numP s = some v) : ∀ {ss : List Bs} {l : List Int}, numsL ss = some l → numsL (ss ++ [s]) = some (l ++ [v])
  | [], l, h => by cases h; rw [List.nil_append, numsL, hv]; rfl
  | x :: ss, l, h => by
    rw [numsL] at h;rw [List.cons_append, numsL];cases hx : Go.Ti.numP x with
    | none => rw [hx] at h; cases h
    | some u =>
      rw [hx] at h;cases hr : numsL ss with
      | none => rw [hr] at h; cases h
      | some r => rw [hr] at h; cases h; rw [ZQ hv hr]; rfl
def AllK (ss : List Bs) (v : Value) (D' : Imm) (_ : Hp) : Prop := ∃ (l : List Int) (al : Option Addr) (nl cl : Nat), numsL ss = some l ∧ v = .slice al nl cl ∧ SlL D' 1 (l.map intC) al nl ∧ nl = ss.length
def AllC (ss : List Bs) (ch : List PanicEntry) (_ : Imm) (_ : Hp) : Prop := numsL ss = none ∧ ch = jA 8
theorem KW (tb : Nat) (ss : List Bs) (a : Option Addr) (c : Nat) (D : Imm) (w : World) (hL : LibW D) (hS : SlL D 1 (ss.map strC) a ss.length) (hc : ss.length ≤ c) (hll : ss.length ≤ 1000) (hlen : ∀ s ∈ ss, s.length ≤ 2 ^ 20) (hI0 : Inv D [(tb, tkO a ss.length c)] [tb] w w) : yl Tryz.prog 74 [pt tb] w D [tb] (AllK ss) (AllC ss) := by
  unfold yl;refine en Tryz.func74 rfl Tryz.ntmps74 hI0 (g [[1],[4,0]] ?_);refine WC.scope (g [[1],[7,2,0]] ?_);refine WC.label (g [[3]] ?_);refine WC.loop (fun y : Nat × Imm × Option Ow × Option Addr × Nat × List Int => [(0, pt tb), (2, owV y.2.2.1 y.1), (3, .func (.func 161) #[pt tb] #[])]) (fun y => (tb, tkO y.2.2.2.1 (ss.length - y.1) y.2.2.2.2.1) :: owH y.2.2.1 3 (y.2.2.2.2.2.flatMap intC) []) (fun y => y.2.1) (fun y => y.1 ≤ ss.length ∧ DExt w D y.2.1 ∧ owP w y.2.2.1 y.1 1 ∧ SlL y.2.1 1 ((ss.drop y.1).map strC) y.2.2.2.1 (ss.length - y.1) ∧ ss.length - y.1 ≤ y.2.2.2.2.1 ∧ y.2.2.2.2.2.length = y.1 ∧ numsL (ss.take y.1) = some y.2.2.2.2.2) (fun y => ss.length - y.1) ⟨0, D, none, a, c, []⟩ ⟨by omega, DExt.refl _ _, rfl, hS, hc, rfl, rfl⟩ (fun a w h => y4 h ⟨rfl, rfl, rfl, trivial⟩) ?_;rintro ⟨k, D1, o, a1, c1, lk⟩ ⟨hk, hX1, ho, hS1, hc1, hlk, hnk⟩;dsimp only at hk hX1 ho hS1 hc1 hlk hnk;refine g [[3],[9,0,2,3]] ?_;refine WC.cond rfl (fun c11 => ?_) (fun c11 => ?_)
  · try simp only [zq] at c11
    obtain rfl : k = ss.length := by omega
    refine g [[7],[2,2]] ?_;refine WL.know 17 (.slice (owAt o) ss.length (owCp o ss.length)) rfl (xg (wt ho)) ?_;refine WL.freezeOw (f := intC) (m := 1) zJ [_] [] o 3 lk rfl (by rw [hlk]; exact ho) rfl (fun D3 hX3 hS3 => ?_);refine g [[4]] ?_;refine WP.scRet ?_;refine WP.ret1 rfl rfl rfl (RV.tmp rfl) (fun w1 hI => ⟨D3, _, hX1.trans hX3 (Nat.le_refl _), hI, .inl ⟨_, rfl, lk, _, _, _, by rw [← hnk, List.take_length], rfl, (by rw [← hlk]; exact hS3), rfl⟩⟩)
  try simp only [zq] at c11
  have hkl : k < ss.length := by omega
  refine g [[2],[3,0,2,3]] ?_;refine WL.so  (SO.altersV (own := owH o 3 (lk.flatMap intC) []) (hpc := [(tb, tkO a1 (ss.length - k) c1)]) (S1 := [tb]) (fun e he => (List.perm_append_singleton _ _).mem_iff.1 he) (fun hn => ((List.perm_append_singleton _ _).map Prod.fst).nodup_iff.2 hn) (fun _ h => h) (fun _ h => h) (Enters.val CaF.h rfl rfl) (fun w1 _ hI => Js tb (ss.drop k) a1 _ c1 D1 w1 (hL.ext hX1) hS1 (by omega) hc1 (by rw [YB]; exact hlen _ (gt_mem' hkl)) hI) ?_) rfl ?_
  · rintro ch D5 hp5 ⟨hnn, rfl⟩ hX5;rw [YB] at hnn;refine g [[4]] ?_;refine WP.scPanic ?_;exact WP.panicBody rfl (fun w1 hI => ⟨D5, _, hX1.trans hX5 (Nat.le_refl _), hI, .inr ⟨_, rfl, Ul (gt_mem' hkl) hnn, rfl⟩⟩)
  rintro _ D2 _ ⟨hp2, hX2, ⟨⟨z, hz, rfl⟩, rfl⟩, rfl⟩;rw [YB] at hz;refine WL.hpPerm ((tb, tkO (u6 a1 c1 1 1) (ss.length - k - 1) (c1 - 1)) :: owH o 3 (lk.flatMap intC) []) (List.perm_append_singleton _ _) (WL.so (SO.buildSlice1 UnF.h SzF.h ZvF.h rfl rfl rfl (vs := [_]) rfl rfl rfl) rfl ?_);rintro _ _ _ ⟨b15, hb15, rfl, rfl, rfl⟩;refine WL.so (SO.appendOwW (W := w) (Nat.le_refl _) (o := o) (len := k) (n := 1) (xs := (lk.flatMap intC)) (size := 1) [_] [_] [] rfl rfl Tryz.underlying94 Tryz.sizeOf3 Tryz.typeInfo3 Tryz.zeroValue3 rfl rfl rfl rfl ⟨rfl, .inr ⟨_, _, _, rfl, RdN.own (k := 0) (n := 1) rfl rfl⟩⟩ (za rfl) ho (by rw [zr zJ, hlk, Nat.mul_one]) (by omega) (by show (2 * (k + 1) + 1000) * 8 ≤ 2 ^ 48; omega) (by omega)) rfl ?_;rintro _ _ _ ⟨u1, hu1, rfl, rfl, rfl⟩;refine g [[3]] ?_;exact WP.again (⟨k + 1, D2, some u1, u6 a1 c1 1 1, c1 - 1, lk ++ [z]⟩ : Nat × Imm × Option Ow × Option Addr × Nat × List Int) ⟨by simp only; omega, hX1.trans hX2 (Nat.le_refl _), hu1, by dsimp only; rw [← List.drop_drop, show ss.length - (k + 1) = ss.length - k - 1 by omega]; rw [List.map_drop]; exact (hS1.ext hX2).drop (by omega) hc1, by dsimp only; omega, by dsimp only; rw [List.length_append, hlk]; rfl, by dsimp only; rw [zP hkl]; exact ZQ hz hnk⟩ (by simp only; omega) (fun aa ww h => yM 0 h ⟨rfl, rfl, rfl, trivial⟩ (by dsimp only; rw [List.flatMap_append]; exact List.Perm.refl _) (fun _ _ h => h))
theorem zdM : zj Tryz.prog 129 [.slice none 0 0] [(0, 1)] := ⟨⟨_, Tryz.zeroValue129, rfl⟩, _, Tryz.underlying129, fun w => by simp [Tryz.sizeOf37]⟩
abbrev zbD := SaF.mk zdM
attribute [instance] zbD
theorem zmW {x : Wick} {bq : Nat → Nat} {D : Imm} (hE : EntH bq D 4) {y : Bs} {n : Nat} (hf1 : y ≠ yN) (hf2 : y ≠ y9) (hN : vv y = some n) : ∃ (f : FuncId) (cap : List Value), (w9L ++ entW bq 4).lookup y = some (wdV n (.func (.func f) #[] cap.toArray)) ∧ DoX x f cap n (fun d ls => doD x d y ls) D := by
  cases h : (w9L ++ entW bq 4).lookup y with
  | none => rw [Qm h] at hN; cases hN
  | some v =>
    obtain ⟨k, f, cap, rfl, h1, h2⟩ := zmB (x := x) hE hf1 hf2 h;rw [h1] at hN; cases hN;exact ⟨f, cap, rfl, h2⟩
theorem zmA {bq : Nat → Nat} {D : Imm} (hE : EntH bq D 4) {y : Bs} (hN : vv y = none) : (w9L ++ entW bq 4).lookup y = none := by
  cases h : (w9L ++ entW bq 4).lookup y with
  | none => rfl
  | some v =>
    obtain ⟨k, f, cap, rfl, h1, h2⟩ := zmB (x := ⟨0, 0, 0, 0, [], []⟩) hE (fun e => by subst e; exact absurd hN (by decide)) (fun e => by subst e; exact absurd hN (by decide)) h;rw [h1] at hN; cases hN
theorem j5 : ∀ (s acc p : Bs), p ∈ xJ acc s → p.length ≤ acc.length + s.length
  | [], acc, p, h => by simp only [xJ, List.mem_singleton] at h; subst h; simp
  | c :: s, acc, p, h => by
    rw [xJ] at h;split at h
    · rcases List.mem_cons.1 h with rfl | h
      · omega
      have := j5 s [] p h; simp only [List.length_nil, List.length_cons] at this ⊢; omega
    have := j5 s _ p h; simp only [List.length_append, List.length_singleton, List.length_cons] at this ⊢; simp at this; omega
theorem xR {s p : Bs} (h : p ∈ Lib.split s [32]) : p.length ≤ s.length := by
  rw [vY _ s (Nat.le_refl _)] at h;simpa using j5 s [] p h
theorem uK : ∀ (s acc : Bs), (xJ acc s).length ≤ s.length + 1
  | [], acc => by simp [xJ]
  | c :: s, acc => by
    rw [xJ];split
    · have := uK s []; simp only [List.length_cons]; omega
    have := uK s (acc ++ [c]); simp only [List.length_cons]; omega
theorem jd (s : Bs) : (Lib.split s [32]).length ≤ s.length + 1 := by
  rw [vY _ s (Nat.le_refl _)]; exact uK s []
theorem kq {l : List Bs} : gt l 0 = l.headD [] := by cases l <;> rfl
theorem jf (s : Bs) : 1 ≤ (Lib.split s [32]).length := by
  have := JP s;rcases h : Lib.split s [32] with _ | ⟨a, l⟩
  · exact absurd h this
  simp
section
variable {x : Wick} {d : Day} {s : Bs}
include x d s
theorem ZL (h : 60 < s.length) : zC x d s = errD d 3 := by unfold zC; rw [if_pos h]
theorem qT (h : ¬ 60 < s.length) (hN : vv (gt (Lib.split s [32]) 0) = none) : zC x d s = errD d 8 := by
  unfold zC; rw [if_neg h, ← kq, hN]
section
variable {n : Nat} (h : ¬ 60 < s.length) (hN : vv (gt (Lib.split s [32]) 0) = some n)
include n h hN
theorem qS (hn : (Lib.split s [32]).length ≠ n + 1) : zC x d s = errD d 8 := by
  unfold zC; rw [if_neg h, ← kq, hN]; dsimp only; rw [if_pos hn]
theorem qU (hn : (Lib.split s [32]).length = n + 1) (hl : numsL ((Lib.split s [32]).drop 1) = none) : zC x d s = errD d 8 := by
  unfold zC; rw [if_neg h, ← kq, hN]; dsimp only; rw [if_neg (by omega), ← List.drop_one, hl]
end
theorem uG {n : Nat} {l : List Int} (h : ¬ 60 < s.length) (hN : vv (gt (Lib.split s [32]) 0) = some n) (hn : (Lib.split s [32]).length = n + 1) (hl : numsL ((Lib.split s [32]).drop 1) = some l) : zC x d s = doD x d (gt (Lib.split s [32]) 0) l := by
  unfold zC; rw [if_neg h, ← kq, hN]; dsimp only; rw [if_neg (by omega), ← List.drop_one, hl]
end
theorem jP {P : Program} {x : Cx} {fr : Fr} {D : Imm} {hp : Hp} {op : Op} {ty : TypeId} {G : List (List UInt8 × Value)} {y : List UInt8} {r : Option Value} {z v : Value} (hr : G.lookup y = r) (hv : Value.tuple #[r.getD z, .bool r.isSome] = v) (h : Yd P x fr D hp op ty (.tuple #[(G.lookup y).getD z, .bool (G.lookup y).isSome])) : Yd P x fr D hp op ty v := by
  rw [hr, hv] at h; exact h
def Vd (x : Wick) (m s : Sl) (xb : Nat) (r : Rep) (v : Value) (D' : Imm) (hp' : Hp) : Prop := v = .tuple #[st r.2.1, it r.2.2] ∧ ∃ t' l' b', hp' = [(xb, womO x m s t' l' b')] ∧ DayR D' r.1 t' l' b'
theorem w4 {x : Wick} {d : Day} {m s t l b : Sl} {xb : Nat} {D : Imm} (e : Int) (hd : DayR D d t l b) : Vd x m s xb (errD d e) (.tuple #[st [], it e]) D [(xb, womO x m s t l b)] := ⟨rfl, t, l, b, rfl, hd⟩
theorem YI {x : Wick} {d : Day} {q : Bs} {m s t l b : Sl} {xb : Nat} {D : Imm} {r : Rep} (h : zC x d q = r) (he : r.2.2 ≠ 0) (hd : DayR D d t l b) : Vd x m s xb (zC x d q) (.tuple #[st [], it r.2.2]) D [(xb, womO x m s t l b)] := by
  have h1 := zb7 (Ji x d q) (by rw [h]; exact he);refine ⟨by rw [h1.2, h], t, l, b, rfl, by rw [h1.1]; exact hd⟩
section
variable (x : Wick) (d : Day) (m s t l b : Sl) (xb : Nat) (q : Bs) (D : Imm) (w : World) (hw : zS x = true) (hdo : zT x d) (hW : yG D x m s) (hd : DayR D d t l b) (hL : LibW D) (hq : q.length ≤ 2 ^ 20) (hI0 : Inv D [(xb, womO x m s t l b)] [xb] w w)
include x d m s t l b xb q D w hw hdo hW hd hL hq hI0
theorem zaC (hN : vv (gt (Lib.split q [32]) 0) = none) : zp Tryz.prog 20 [pt xb, st q] w D [xb] (Vd x m s xb (zC x d q)) := by
  unfold zp;refine enD Tryz.func20 rfl Tryz.ntmps20 hI0 (g [[1],[2,0,1]] ?_);refine WL.so (SO.alloc ZvF.h rfl) rfl (zw fun b5 hb5 => ?_);refine g [[3],[2,5,4,0,1]] ?_;refine WL.defer rfl (g [[3],[2,5,4,0,1]] ?_);refine WL.yd (Yd.neP UnF.h rfl) rfl (g [[6]] ?_);refine WL.cl rfl (fun w hI => zB _ _) (g [[3],[2,5,4,0,1]] ?_);refine WL.yd (Yd.lenStr rfl Tryz.underlying9 rfl) rfl (g [[1]] ?_);refine WL.part 22 rfl (fun g22 => ?_) (fun g22 => ?_)
  · try simp only [zq] at g22
    refine WL.cl rfl (fun w hI => zB _ _) (g [[3],[2,5,4,0,1]] ?_);refine WL.so (SO.makes (Enters.func Tryz.call72 rfl) (fun w1 hI => XW q 32 (by omega) D hL _ hI.imm)) rfl ?_;rintro _ D2 _ ⟨hX2, ⟨a1, n1, c1, rfl, hc1, hS2⟩, rfl⟩;have hL2 := hL.ext hX2;obtain rfl := hS2.len' (f := strC);have hpos := jf q;have hup := jd q;refine g [[4],[0,6,5,4,0]] ?_;refine WC.drawH [] zk zNl (g [[1001]] ?_);refine WH.yd (i := 2) zk zX rfl (Yd.ix rfl rfl (hS2.addr 0 (by omega))) rfl (WH.yd (i := 3) zk zX rfl (Yd.l1 rfl ((hS2.at 0 (by omega)).rd 0 rfl)) rfl ?_);refine WH.two (i := 0) (j := 8) zk ?_ ?_
    · refine WHo.so rfl (SO.makes (Enters.func Tryz.call73 rfl) (fun w1 hI => Z9 D2 hL2 _ hI.imm)) rfl ?_;rintro _ D3 _ ⟨hX3, ⟨bm, es, ck, bq, rfl, hbm, hAL, hE⟩, rfl⟩;have hlk := zmA hE hN;refine ⟨(fun _ hI => by first | exact hI.nil | exact hI.nil.shrink hX3.old), ?_⟩;refine WH.two (i := 4) (j := 8) zk ?_ ?_
      · refine WHo.yd rfl (jP (v := .tuple #[.agg #[it 0, .nilFunc], .bool false]) hlk rfl (Yd.lookADOk (z := .agg #[it 0, .nilFunc]) strK UnF.h UnF.h ZvF.h rfl (Nat.le_trans (xR (gt_mem' (by omega))) (by omega)) rfl hbm hAL)) rfl (g [[1005],[1006],[1007]] ?_);refine WH.know 33 (.bool false) rfl rfl ?_;refine WH.one (i := 8) zk (WHo.so rfl (SO.alloc ZvF.h rfl) rfl ?_);rintro _ _ _ ⟨b7, hb7, rfl, rfl, rfl⟩;refine ⟨(fun _ hI => by first | exact hI.nil | exact hI.nil.shrink hX3.old), ?_⟩;refine WH.one (i := 9) zk (WHo.so rfl (SO.store 0 rfl SzF.h rfl rfl rfl rfl (zqb rfl) (za rfl)) rfl ?_);rintro _ _ _ ⟨rfl, rfl, rfl⟩;refine ⟨(fun _ hI => by first | exact hI.nil | exact hI.nil.shrink hX3.old), ?_⟩;refine g [[1010]] ?_;refine WH.know 8 (.bool false) rfl rfl (WH.nil zk (g [[2],[10,8,7,6,5,4,0]] ?_));refine WL.nf rfl (fun w hI => zy _ _) (g [[1]] ?_);refine WP.panicD (k := 1) [_, _] [_, _] rfl CaF.h rfl (fun w hI => yY _ _ _ _ _ (hI.own _ _ (List.mem_of_getElem? (i := 1) rfl))) rfl zV (fun w1 hI => ⟨_, D3, [_], rfl, hX2.trans hX3 (Nat.le_refl _), hI.tail.tail, by rw [qT (by omega) hN]; exact w4 8 ((hd.ext hX2).ext hX3)⟩)
      refine WHo.so rfl (SO.alloc ZvF.h rfl) rfl ?_;rintro _ _ _ ⟨b7, hb7, rfl, rfl, rfl⟩;refine ⟨(fun _ hI => by first | exact hI.nil | exact hI.nil.shrink hX3.old), ?_⟩;refine WH.one (i := 4) zk (WHo.yd rfl (jP (v := .tuple #[.agg #[it 0, .nilFunc], .bool false]) hlk rfl (Yd.lookADOk (z := .agg #[it 0, .nilFunc]) strK UnF.h UnF.h ZvF.h rfl (Nat.le_trans (xR (gt_mem' (by omega))) (by omega)) rfl hbm hAL)) rfl (g [[1005],[1006],[1007]] ?_));refine WH.know 33 (.bool false) rfl rfl ?_;refine WH.one (i := 9) zk (WHo.so rfl (SO.store 0 rfl SzF.h rfl rfl rfl rfl (zqb rfl) (za rfl)) rfl ?_);rintro _ _ _ ⟨rfl, rfl, rfl⟩;refine ⟨(fun _ hI => by first | exact hI.nil | exact hI.nil.shrink hX3.old), ?_⟩;refine g [[1010]] ?_;refine WH.know 8 (.bool false) rfl rfl (WH.nil zk (g [[2],[10,8,7,6,5,4,0]] ?_));refine WL.nf rfl (fun w hI => zy _ _) (g [[1]] ?_);refine WP.panicD (k := 1) [_, _] [_, _] rfl CaF.h rfl (fun w hI => yY _ _ _ _ _ (hI.own _ _ (List.mem_of_getElem? (i := 1) rfl))) rfl zV (fun w1 hI => ⟨_, D3, [_], rfl, hX2.trans hX3 (Nat.le_refl _), hI.tail.tail, by rw [qT (by omega) hN]; exact w4 8 ((hd.ext hX2).ext hX3)⟩)
    refine WHo.so rfl (SO.alloc ZvF.h rfl) rfl ?_;rintro _ _ _ ⟨b7, hb7, rfl, rfl, rfl⟩;refine ⟨(fun _ hI => by first | exact hI.nil | exact hI.nil.shrink hX3.old), ?_⟩;refine WH.one (i := 0) zk (WHo.so rfl (SO.makes (Enters.func Tryz.call73 rfl) (fun w1 hI => Z9 D2 hL2 _ hI.imm)) rfl ?_);rintro _ D3 _ ⟨hX3, ⟨bm, es, ck, bq, rfl, hbm, hAL, hE⟩, rfl⟩;have hlk := zmA hE hN;refine ⟨(fun _ hI => by first | exact hI.nil | exact hI.nil.shrink hX3.old), ?_⟩;refine WH.one (i := 4) zk (WHo.yd rfl (jP (v := .tuple #[.agg #[it 0, .nilFunc], .bool false]) hlk rfl (Yd.lookADOk (z := .agg #[it 0, .nilFunc]) strK UnF.h UnF.h ZvF.h rfl (Nat.le_trans (xR (gt_mem' (by omega))) (by omega)) rfl hbm hAL)) rfl (g [[1005],[1006],[1007]] ?_));refine WH.know 33 (.bool false) rfl rfl ?_;refine WH.one (i := 9) zk (WHo.so rfl (SO.store 0 rfl SzF.h rfl rfl rfl rfl (zqb rfl) (za rfl)) rfl ?_);rintro _ _ _ ⟨rfl, rfl, rfl⟩;refine ⟨(fun _ hI => by first | exact hI.nil | exact hI.nil.shrink hX3.old), ?_⟩;refine g [[1010]] ?_;refine WH.know 8 (.bool false) rfl rfl (WH.nil zk (g [[2],[10,8,7,6,5,4,0]] ?_));refine WL.nf rfl (fun w hI => zy _ _) (g [[1]] ?_);refine WP.panicD (k := 1) [_, _] [_, _] rfl CaF.h rfl (fun w hI => yY _ _ _ _ _ (hI.own _ _ (List.mem_of_getElem? (i := 1) rfl))) rfl zV (fun w1 hI => ⟨_, D3, [_], rfl, hX2.trans hX3 (Nat.le_refl _), hI.tail.tail, by rw [qT (by omega) hN]; exact w4 8 ((hd.ext hX2).ext hX3)⟩)
  try simp only [zq] at g22
  refine WL.nf rfl (fun w hI => zy _ _) (g [[1]] ?_);refine WP.panicD (k := 0) [_, _] [_, _] rfl CaF.h rfl (fun w hI => yY _ _ _ _ _ (hI.own _ _ (List.mem_of_getElem? (i := 0) rfl))) rfl zV (fun w1 hI => ⟨_, D, [_], rfl, DExt.refl _ _, hI.tail, by rw [ZL (by omega)]; exact w4 3 hd⟩)
theorem zaD (n : Nat) (hN : vv (gt (Lib.split q [32]) 0) = some n) (hLk : ∀ {bq : Nat → Nat} {D : Imm}, EntH bq D 4 → ∃ (f : FuncId) (cap : List Value), (w9L ++ entW bq 4).lookup (gt (Lib.split q [32]) 0) = some (wdV n (.func (.func f) #[] cap.toArray)) ∧ DoX x f cap n (fun d ls => doD x d (gt (Lib.split q [32]) 0) ls) D) : zp Tryz.prog 20 [pt xb, st q] w D [xb] (Vd x m s xb (zC x d q)) := by
  unfold zp;refine enD Tryz.func20 rfl Tryz.ntmps20 hI0 (g [[1],[2,0,1]] ?_);refine WL.so (SO.alloc ZvF.h rfl) rfl (zw fun b5 hb5 => ?_);refine g [[3],[2,5,4,0,1]] ?_;refine WL.defer rfl (g [[3],[2,5,4,0,1]] ?_);refine WL.yd (Yd.neP UnF.h rfl) rfl (g [[6]] ?_);refine WL.cl rfl (fun w hI => zB _ _) (g [[3],[2,5,4,0,1]] ?_);refine WL.yd (Yd.lenStr rfl Tryz.underlying9 rfl) rfl (g [[1]] ?_);refine WL.part 22 rfl (fun g22 => ?_) (fun g22 => ?_)
  · try simp only [zq] at g22
    refine WL.cl rfl (fun w hI => zB _ _) (g [[3],[2,5,4,0,1]] ?_);refine WL.so (SO.makes (Enters.func Tryz.call72 rfl) (fun w1 hI => XW q 32 (by omega) D hL _ hI.imm)) rfl ?_;rintro _ D2 _ ⟨hX2, ⟨a1, n1, c1, rfl, hc1, hS2⟩, rfl⟩;have hL2 := hL.ext hX2;obtain rfl := hS2.len' (f := strC);have hpos := jf q;have hup := jd q;refine g [[4],[0,6,5,4,0]] ?_;refine WC.drawH [] zk zNl (g [[1001]] ?_);refine WH.yd (i := 2) zk zX rfl (Yd.ix rfl rfl (hS2.addr 0 (by omega))) rfl (WH.yd (i := 3) zk zX rfl (Yd.l1 rfl ((hS2.at 0 (by omega)).rd 0 rfl)) rfl ?_);refine WH.two (i := 0) (j := 8) zk ?_ ?_
    · refine WHo.so rfl (SO.makes (Enters.func Tryz.call73 rfl) (fun w1 hI => Z9 D2 hL2 _ hI.imm)) rfl ?_;rintro _ D3 _ ⟨hX3, ⟨bm, es, ck, bq, rfl, hbm, hAL, hE⟩, rfl⟩;obtain ⟨f, cap, hlk, hDo⟩ := hLk hE;refine ⟨(fun _ hI => by first | exact hI.nil | exact hI.nil.shrink hX3.old), ?_⟩;refine WH.two (i := 4) (j := 8) zk ?_ ?_
      · refine WHo.yd rfl (jP (v := .tuple #[wdV n (.func (.func f) #[] cap.toArray), .bool true]) hlk rfl (Yd.lookADOk (z := .agg #[it 0, .nilFunc]) strK UnF.h UnF.h ZvF.h rfl (Nat.le_trans (xR (gt_mem' (by omega))) (by omega)) rfl hbm hAL)) rfl (g [[1005],[1006],[1007]] ?_);refine WH.know 33 (.bool true) rfl rfl ?_;refine WH.one (i := 8) zk (WHo.so rfl (SO.alloc ZvF.h rfl) rfl ?_);rintro _ _ _ ⟨b7, hb7, rfl, rfl, rfl⟩;refine ⟨(fun _ hI => by first | exact hI.nil | exact hI.nil.shrink hX3.old), ?_⟩;refine WH.one (i := 9) zk (WHo.so rfl (SO.store 0 rfl SzF.h rfl rfl rfl rfl (zqb rfl) (za rfl)) rfl ?_);rintro _ _ _ ⟨rfl, rfl, rfl⟩;refine ⟨(fun _ hI => by first | exact hI.nil | exact hI.nil.shrink hX3.old), ?_⟩;refine g [[1010]] ?_;refine WH.know 8 (.bool true) rfl rfl (WH.nil zk (g [[2],[10,8,7,6,5,4,0]] ?_));refine WL.part 42 rfl (fun g42 => ?_) (fun g42 => ?_)
        · try simp only [zq] at g42
          refine WL.cl rfl (fun w hI => zB _ _) (g [[3],[2,7,6,5,4,0]] ?_);refine WL.yd (Yd.sliceFrom (k := 1) Tryz.underlying37 Tryz.sizeOf9 rfl rfl (by omega)) rfl (g [[1]] ?_);refine WL.so (SO.box rfl rfl) rfl (zw fun b47 hb47 => ?_);refine g [[4]] ?_;refine WC.hpPerm _ (List.perm_append_singleton _ _).symm (g [[0,9,7,5,4,0]] ?_);refine WC.drawP [_] (pz [1,3,5,7,8,10,12,14]) zk zk zX (fun _ hI => Inv.left (l1 := [_]) hI) (g [[2]] ?_);refine WA.know 49 (.func (.func f) #[] cap.toArray) rfl rfl (g [[2]] ?_);refine WA.so rfl  (SO.altersV (own := _) (hpc := [(b47, tkO (u6 a1 c1 1 1) ((Lib.split q [32]).length - 1) (c1 - 1))]) (S1 := [b47]) (fun _ h => h) (fun h => h) (fun _ h => h) (fun _ h => h) (Enters.func CaF.h rfl) (fun w1 _ hI => KW b47 ((Lib.split q [32]).drop 1) (u6 a1 c1 1 1) (c1 - 1) D3 w1 (hL2.ext hX3) (by rw [List.map_drop, List.length_drop]; exact (hS2.ext hX3).drop (k := 1) (by omega) hc1) (by rw [List.length_drop]; omega) (by rw [List.length_drop]; omega) (fun p hp => Nat.le_trans (xR (List.mem_of_mem_drop hp)) (by omega)) (by rw [List.length_drop]; exact hI)) ?_) rfl ?_
          · rintro ch D5 hp5 ⟨hnn, rfl⟩ hX5;refine g [[1]] ?_;refine WP.panicD (k := 1) [_, _] [_, _] rfl CaF.h rfl (fun w hI => yY _ _ _ _ _ (hI.own _ _ (List.mem_of_getElem? (i := 1) rfl))) rfl zV (fun w1 hI => ⟨_, D5, [_], rfl, (hX2.trans hX3 (Nat.le_refl _)).trans hX5 (Nat.le_refl _), (Inv.left (l1 := [_, _, _]) hI).tail.tail, by rw [qU (by omega) hN (by omega) hnn]; exact w4 8 (((hd.ext hX2).ext hX3).ext hX5)⟩)
          rintro _ D4 _ ⟨hp4, hX4, ⟨ls, al, nl, cl, hls, rfl, hSl, hnl⟩, rfl⟩;have hX234 := (hX2.trans hX3 (Nat.le_refl _)).trans hX4 (Nat.le_refl _);refine ⟨fun _ hI => (Inv.left (l1 := [_]) hI.left).shrink hX4.old, ?_⟩;refine WA.left ?_;refine WA.so rfl  (SO.altersV (own := [_, _]) (hpc := [(xb, womO x m s t l b)]) (S1 := [xb]) (fun _ h => h) (fun h => h) (fun _ h => h) (fun _ h => h) (Enters.val (va := []) (vb := cap) (vals := [pt xb, .slice al nl cl]) hDo.1 rfl rfl) (fun w1 _ hI => hDo.2 d m s t l b xb D4 w1 (fun b o h => hX4.old _ _ h) hw hdo (hW.ext hX234) (hd.ext hX234) (hL.ext hX234) ls al nl cl hSl (by rw [← hSl.len', hnl, List.length_drop]; omega) (by rw [hnl, List.length_drop]; omega) hI) ?_) rfl ?_
          · rintro ch D5 hp5 ⟨hne, rfl, rfl⟩ hX5;refine g [[1]] ?_;refine WP.panicD (k := 1) [_, _] [_, _] rfl CaF.h rfl (fun w hI => yY _ _ _ _ _ (hI.own _ _ (List.mem_of_getElem? (i := 1) rfl))) rfl zV (fun w1 hI => ⟨_, D5, [_], rfl, hX234.trans hX5 (Nat.le_refl _), hI.tail.tail, YI (uG (by omega) hN (by omega) hls) hne ((hd.ext hX234).ext hX5)⟩)
          rintro _ D5 _ ⟨hp5, hX5, ⟨he0, rfl, t1, l1, b1, rfl, hd5⟩, rfl⟩;refine ⟨fun _ hI => ((Inv.left (l1 := [_]) hI).shrink hX5.old).shrink hX4.old, ?_⟩;refine WA.so rfl (SO.ofYd (Yd.assign rfl)) rfl (zs ⟨fun _ hI => ((Inv.left (l1 := [_]) hI).shrink hX5.old).shrink hX4.old, ?_⟩);refine WA.so rfl (SO.store 1 rfl SzF.h rfl rfl rfl rfl (zqb rfl) (za rfl)) rfl ?_;rintro _ _ _ ⟨rfl, rfl, rfl⟩;refine ⟨fun _ hI => ((Inv.left (l1 := [_]) hI).shrink hX5.old).shrink hX4.old, ?_⟩;refine g [[3]] ?_;refine WP.endD [_, _] [_, _] rfl rfl CaF.h (fun w hI => VV _ _) rfl zV (fun w1 hI => ⟨_, D5, [_], rfl, hX234.trans hX5 (Nat.le_refl _), hI.tail.tail, by rw [uG (by omega) hN (by omega) hls]; exact ⟨by rw [he0]; rfl, t1, l1, b1, rfl, hd5⟩⟩)
        try simp only [zq] at g42
        refine WL.nf rfl (fun w hI => zy _ _) (g [[1]] ?_);refine WP.panicD (k := 1) [_, _] [_, _] rfl CaF.h rfl (fun w hI => yY _ _ _ _ _ (hI.own _ _ (List.mem_of_getElem? (i := 1) rfl))) rfl zV (fun w1 hI => ⟨_, D3, [_], rfl, hX2.trans hX3 (Nat.le_refl _), hI.tail.tail, by rw [qS (by omega) hN (by omega)]; exact w4 8 ((hd.ext hX2).ext hX3)⟩)
      refine WHo.so rfl (SO.alloc ZvF.h rfl) rfl ?_;rintro _ _ _ ⟨b7, hb7, rfl, rfl, rfl⟩;refine ⟨(fun _ hI => by first | exact hI.nil | exact hI.nil.shrink hX3.old), ?_⟩;refine WH.one (i := 4) zk (WHo.yd rfl (jP (v := .tuple #[wdV n (.func (.func f) #[] cap.toArray), .bool true]) hlk rfl (Yd.lookADOk (z := .agg #[it 0, .nilFunc]) strK UnF.h UnF.h ZvF.h rfl (Nat.le_trans (xR (gt_mem' (by omega))) (by omega)) rfl hbm hAL)) rfl (g [[1005],[1006],[1007]] ?_));refine WH.know 33 (.bool true) rfl rfl ?_;refine WH.one (i := 9) zk (WHo.so rfl (SO.store 0 rfl SzF.h rfl rfl rfl rfl (zqb rfl) (za rfl)) rfl ?_);rintro _ _ _ ⟨rfl, rfl, rfl⟩;refine ⟨(fun _ hI => by first | exact hI.nil | exact hI.nil.shrink hX3.old), ?_⟩;refine g [[1010]] ?_;refine WH.know 8 (.bool true) rfl rfl (WH.nil zk (g [[2],[10,8,7,6,5,4,0]] ?_));refine WL.part 42 rfl (fun g42 => ?_) (fun g42 => ?_)
      · try simp only [zq] at g42
        refine WL.cl rfl (fun w hI => zB _ _) (g [[3],[2,7,6,5,4,0]] ?_);refine WL.yd (Yd.sliceFrom (k := 1) Tryz.underlying37 Tryz.sizeOf9 rfl rfl (by omega)) rfl (g [[1]] ?_);refine WL.so (SO.box rfl rfl) rfl (zw fun b47 hb47 => ?_);refine g [[4]] ?_;refine WC.hpPerm _ (List.perm_append_singleton _ _).symm (g [[0,9,7,5,4,0]] ?_);refine WC.drawP [_] (pz [1,3,5,7,8,10,12,14]) zk zk zX (fun _ hI => Inv.left (l1 := [_]) hI) (g [[2]] ?_);refine WA.know 49 (.func (.func f) #[] cap.toArray) rfl rfl (g [[2]] ?_);refine WA.so rfl  (SO.altersV (own := _) (hpc := [(b47, tkO (u6 a1 c1 1 1) ((Lib.split q [32]).length - 1) (c1 - 1))]) (S1 := [b47]) (fun _ h => h) (fun h => h) (fun _ h => h) (fun _ h => h) (Enters.func CaF.h rfl) (fun w1 _ hI => KW b47 ((Lib.split q [32]).drop 1) (u6 a1 c1 1 1) (c1 - 1) D3 w1 (hL2.ext hX3) (by rw [List.map_drop, List.length_drop]; exact (hS2.ext hX3).drop (k := 1) (by omega) hc1) (by rw [List.length_drop]; omega) (by rw [List.length_drop]; omega) (fun p hp => Nat.le_trans (xR (List.mem_of_mem_drop hp)) (by omega)) (by rw [List.length_drop]; exact hI)) ?_) rfl ?_
        · rintro ch D5 hp5 ⟨hnn, rfl⟩ hX5;refine g [[1]] ?_;refine WP.panicD (k := 1) [_, _] [_, _] rfl CaF.h rfl (fun w hI => yY _ _ _ _ _ (hI.own _ _ (List.mem_of_getElem? (i := 1) rfl))) rfl zV (fun w1 hI => ⟨_, D5, [_], rfl, (hX2.trans hX3 (Nat.le_refl _)).trans hX5 (Nat.le_refl _), (Inv.left (l1 := [_, _, _]) hI).tail.tail, by rw [qU (by omega) hN (by omega) hnn]; exact w4 8 (((hd.ext hX2).ext hX3).ext hX5)⟩)
        rintro _ D4 _ ⟨hp4, hX4, ⟨ls, al, nl, cl, hls, rfl, hSl, hnl⟩, rfl⟩;have hX234 := (hX2.trans hX3 (Nat.le_refl _)).trans hX4 (Nat.le_refl _);refine ⟨fun _ hI => (Inv.left (l1 := [_]) hI.left).shrink hX4.old, ?_⟩;refine WA.left ?_;refine WA.so rfl  (SO.altersV (own := [_, _]) (hpc := [(xb, womO x m s t l b)]) (S1 := [xb]) (fun _ h => h) (fun h => h) (fun _ h => h) (fun _ h => h) (Enters.val (va := []) (vb := cap) (vals := [pt xb, .slice al nl cl]) hDo.1 rfl rfl) (fun w1 _ hI => hDo.2 d m s t l b xb D4 w1 (fun b o h => hX4.old _ _ h) hw hdo (hW.ext hX234) (hd.ext hX234) (hL.ext hX234) ls al nl cl hSl (by rw [← hSl.len', hnl, List.length_drop]; omega) (by rw [hnl, List.length_drop]; omega) hI) ?_) rfl ?_
        · rintro ch D5 hp5 ⟨hne, rfl, rfl⟩ hX5;refine g [[1]] ?_;refine WP.panicD (k := 1) [_, _] [_, _] rfl CaF.h rfl (fun w hI => yY _ _ _ _ _ (hI.own _ _ (List.mem_of_getElem? (i := 1) rfl))) rfl zV (fun w1 hI => ⟨_, D5, [_], rfl, hX234.trans hX5 (Nat.le_refl _), hI.tail.tail, YI (uG (by omega) hN (by omega) hls) hne ((hd.ext hX234).ext hX5)⟩)
        rintro _ D5 _ ⟨hp5, hX5, ⟨he0, rfl, t1, l1, b1, rfl, hd5⟩, rfl⟩;refine ⟨fun _ hI => ((Inv.left (l1 := [_]) hI).shrink hX5.old).shrink hX4.old, ?_⟩;refine WA.so rfl (SO.ofYd (Yd.assign rfl)) rfl (zs ⟨fun _ hI => ((Inv.left (l1 := [_]) hI).shrink hX5.old).shrink hX4.old, ?_⟩);refine WA.so rfl (SO.store 1 rfl SzF.h rfl rfl rfl rfl (zqb rfl) (za rfl)) rfl ?_;rintro _ _ _ ⟨rfl, rfl, rfl⟩;refine ⟨fun _ hI => ((Inv.left (l1 := [_]) hI).shrink hX5.old).shrink hX4.old, ?_⟩;refine g [[3]] ?_;refine WP.endD [_, _] [_, _] rfl rfl CaF.h (fun w hI => VV _ _) rfl zV (fun w1 hI => ⟨_, D5, [_], rfl, hX234.trans hX5 (Nat.le_refl _), hI.tail.tail, by rw [uG (by omega) hN (by omega) hls]; exact ⟨by rw [he0]; rfl, t1, l1, b1, rfl, hd5⟩⟩)
      try simp only [zq] at g42
      refine WL.nf rfl (fun w hI => zy _ _) (g [[1]] ?_);refine WP.panicD (k := 1) [_, _] [_, _] rfl CaF.h rfl (fun w hI => yY _ _ _ _ _ (hI.own _ _ (List.mem_of_getElem? (i := 1) rfl))) rfl zV (fun w1 hI => ⟨_, D3, [_], rfl, hX2.trans hX3 (Nat.le_refl _), hI.tail.tail, by rw [qS (by omega) hN (by omega)]; exact w4 8 ((hd.ext hX2).ext hX3)⟩)
    refine WHo.so rfl (SO.alloc ZvF.h rfl) rfl ?_;rintro _ _ _ ⟨b7, hb7, rfl, rfl, rfl⟩;refine ⟨(fun _ hI => by first | exact hI.nil | exact hI.nil.shrink hX3.old), ?_⟩;refine WH.one (i := 0) zk (WHo.so rfl (SO.makes (Enters.func Tryz.call73 rfl) (fun w1 hI => Z9 D2 hL2 _ hI.imm)) rfl ?_);rintro _ D3 _ ⟨hX3, ⟨bm, es, ck, bq, rfl, hbm, hAL, hE⟩, rfl⟩;obtain ⟨f, cap, hlk, hDo⟩ := hLk hE;refine ⟨(fun _ hI => by first | exact hI.nil | exact hI.nil.shrink hX3.old), ?_⟩;refine WH.one (i := 4) zk (WHo.yd rfl (jP (v := .tuple #[wdV n (.func (.func f) #[] cap.toArray), .bool true]) hlk rfl (Yd.lookADOk (z := .agg #[it 0, .nilFunc]) strK UnF.h UnF.h ZvF.h rfl (Nat.le_trans (xR (gt_mem' (by omega))) (by omega)) rfl hbm hAL)) rfl (g [[1005],[1006],[1007]] ?_));refine WH.know 33 (.bool true) rfl rfl ?_;refine WH.one (i := 9) zk (WHo.so rfl (SO.store 0 rfl SzF.h rfl rfl rfl rfl (zqb rfl) (za rfl)) rfl ?_);rintro _ _ _ ⟨rfl, rfl, rfl⟩;refine ⟨(fun _ hI => by first | exact hI.nil | exact hI.nil.shrink hX3.old), ?_⟩;refine g [[1010]] ?_;refine WH.know 8 (.bool true) rfl rfl (WH.nil zk (g [[2],[10,8,7,6,5,4,0]] ?_));refine WL.part 42 rfl (fun g42 => ?_) (fun g42 => ?_)
    · try simp only [zq] at g42
      refine WL.cl rfl (fun w hI => zB _ _) (g [[3],[2,7,6,5,4,0]] ?_);refine WL.yd (Yd.sliceFrom (k := 1) Tryz.underlying37 Tryz.sizeOf9 rfl rfl (by omega)) rfl (g [[1]] ?_);refine WL.so (SO.box rfl rfl) rfl (zw fun b47 hb47 => ?_);refine g [[4]] ?_;refine WC.hpPerm _ (List.perm_append_singleton _ _).symm (g [[0,9,7,5,4,0]] ?_);refine WC.drawP [_] (pz [1,3,5,7,8,10,12,14]) zk zk zX (fun _ hI => Inv.left (l1 := [_]) hI) (g [[2]] ?_);refine WA.know 49 (.func (.func f) #[] cap.toArray) rfl rfl (g [[2]] ?_);refine WA.so rfl  (SO.altersV (own := _) (hpc := [(b47, tkO (u6 a1 c1 1 1) ((Lib.split q [32]).length - 1) (c1 - 1))]) (S1 := [b47]) (fun _ h => h) (fun h => h) (fun _ h => h) (fun _ h => h) (Enters.func CaF.h rfl) (fun w1 _ hI => KW b47 ((Lib.split q [32]).drop 1) (u6 a1 c1 1 1) (c1 - 1) D3 w1 (hL2.ext hX3) (by rw [List.map_drop, List.length_drop]; exact (hS2.ext hX3).drop (k := 1) (by omega) hc1) (by rw [List.length_drop]; omega) (by rw [List.length_drop]; omega) (fun p hp => Nat.le_trans (xR (List.mem_of_mem_drop hp)) (by omega)) (by rw [List.length_drop]; exact hI)) ?_) rfl ?_
      · rintro ch D5 hp5 ⟨hnn, rfl⟩ hX5;refine g [[1]] ?_;refine WP.panicD (k := 1) [_, _] [_, _] rfl CaF.h rfl (fun w hI => yY _ _ _ _ _ (hI.own _ _ (List.mem_of_getElem? (i := 1) rfl))) rfl zV (fun w1 hI => ⟨_, D5, [_], rfl, (hX2.trans hX3 (Nat.le_refl _)).trans hX5 (Nat.le_refl _), (Inv.left (l1 := [_, _, _]) hI).tail.tail, by rw [qU (by omega) hN (by omega) hnn]; exact w4 8 (((hd.ext hX2).ext hX3).ext hX5)⟩)
      rintro _ D4 _ ⟨hp4, hX4, ⟨ls, al, nl, cl, hls, rfl, hSl, hnl⟩, rfl⟩;have hX234 := (hX2.trans hX3 (Nat.le_refl _)).trans hX4 (Nat.le_refl _);refine ⟨fun _ hI => (Inv.left (l1 := [_]) hI.left).shrink hX4.old, ?_⟩;refine WA.left ?_;refine WA.so rfl  (SO.altersV (own := [_, _]) (hpc := [(xb, womO x m s t l b)]) (S1 := [xb]) (fun _ h => h) (fun h => h) (fun _ h => h) (fun _ h => h) (Enters.val (va := []) (vb := cap) (vals := [pt xb, .slice al nl cl]) hDo.1 rfl rfl) (fun w1 _ hI => hDo.2 d m s t l b xb D4 w1 (fun b o h => hX4.old _ _ h) hw hdo (hW.ext hX234) (hd.ext hX234) (hL.ext hX234) ls al nl cl hSl (by rw [← hSl.len', hnl, List.length_drop]; omega) (by rw [hnl, List.length_drop]; omega) hI) ?_) rfl ?_
      · rintro ch D5 hp5 ⟨hne, rfl, rfl⟩ hX5;refine g [[1]] ?_;refine WP.panicD (k := 1) [_, _] [_, _] rfl CaF.h rfl (fun w hI => yY _ _ _ _ _ (hI.own _ _ (List.mem_of_getElem? (i := 1) rfl))) rfl zV (fun w1 hI => ⟨_, D5, [_], rfl, hX234.trans hX5 (Nat.le_refl _), hI.tail.tail, YI (uG (by omega) hN (by omega) hls) hne ((hd.ext hX234).ext hX5)⟩)
      rintro _ D5 _ ⟨hp5, hX5, ⟨he0, rfl, t1, l1, b1, rfl, hd5⟩, rfl⟩;refine ⟨fun _ hI => ((Inv.left (l1 := [_]) hI).shrink hX5.old).shrink hX4.old, ?_⟩;refine WA.so rfl (SO.ofYd (Yd.assign rfl)) rfl (zs ⟨fun _ hI => ((Inv.left (l1 := [_]) hI).shrink hX5.old).shrink hX4.old, ?_⟩);refine WA.so rfl (SO.store 1 rfl SzF.h rfl rfl rfl rfl (zqb rfl) (za rfl)) rfl ?_;rintro _ _ _ ⟨rfl, rfl, rfl⟩;refine ⟨fun _ hI => ((Inv.left (l1 := [_]) hI).shrink hX5.old).shrink hX4.old, ?_⟩;refine g [[3]] ?_;refine WP.endD [_, _] [_, _] rfl rfl CaF.h (fun w hI => VV _ _) rfl zV (fun w1 hI => ⟨_, D5, [_], rfl, hX234.trans hX5 (Nat.le_refl _), hI.tail.tail, by rw [uG (by omega) hN (by omega) hls]; exact ⟨by rw [he0]; rfl, t1, l1, b1, rfl, hd5⟩⟩)
    try simp only [zq] at g42
    refine WL.nf rfl (fun w hI => zy _ _) (g [[1]] ?_);refine WP.panicD (k := 1) [_, _] [_, _] rfl CaF.h rfl (fun w hI => yY _ _ _ _ _ (hI.own _ _ (List.mem_of_getElem? (i := 1) rfl))) rfl zV (fun w1 hI => ⟨_, D3, [_], rfl, hX2.trans hX3 (Nat.le_refl _), hI.tail.tail, by rw [qS (by omega) hN (by omega)]; exact w4 8 ((hd.ext hX2).ext hX3)⟩)
  try simp only [zq] at g22
  refine WL.nf rfl (fun w hI => zy _ _) (g [[1]] ?_);refine WP.panicD (k := 0) [_, _] [_, _] rfl CaF.h rfl (fun w hI => yY _ _ _ _ _ (hI.own _ _ (List.mem_of_getElem? (i := 0) rfl))) rfl zV (fun w1 hI => ⟨_, D, [_], rfl, DExt.refl _ _, hI.tail, by rw [ZL (by omega)]; exact w4 3 hd⟩)
end
def LnOk (x : Wick) (q : Bs) : Prop := ∀ (d : Day) (m s t l b : Sl) (xb : Nat) (D : Imm) (w : World), zS x = true → zT x d → yG D x m s → DayR D d t l b → LibW D → Inv D [(xb, womO x m s t l b)] [xb] w w → zp Tryz.prog 20 [pt xb, st q] w D [xb] (Vd x m s xb (zC x d q))
theorem zmK (x : Wick) (q : Bs) (hq : q.length ≤ 2 ^ 20) (hf1 : gt (Lib.split q [32]) 0 ≠ yN) (hf2 : gt (Lib.split q [32]) 0 ≠ y9) : LnOk x q := fun d m s t l b xb D w hw hdo hW hd hL hI0 => by
  cases hN : vv (gt (Lib.split q [32]) 0) with
  | none => exact zaC x d m s t l b xb q D w hw hdo hW hd hL hq hI0 hN
  | some n => exact zaD x d m s t l b xb q D w hw hdo hW hd hL hq hI0 n hN (fun hE => zmW hE hf1 hf2 hN)
theorem zmy (x : Wick) {s : Bs} {ns : List Int} (hs : (32 : UInt8) ∉ s) (hn : ∀ n ∈ ns, 0 ≤ n) (hq : (repL s ns).length ≤ 2 ^ 20) (hf1 : s ≠ yN) (hf2 : s ≠ y9) : LnOk x (repL s ns) :=
  zmK x _ hq (by rw [Y0 ns s hs hn]; exact hf1) (by rw [Y0 ns s hs hn]; exact hf2)
theorem x7 (p : Bs) : (strC p).length = 1 := rfl
section
variable {x : Wick} {ls : List Bs}
include x ls
theorem kM {k : Nat} (h : k ≤ ls.length) : (yV x day0 (ls.take k)).1.length = k := by rw [(kL x _ _).1, List.length_take, Nat.min_eq_left h]
section
variable {k n : Nat} (hk : k < ls.length) (hn : n = (yV x day0 (ls.take k)).2)
include k n hk hn
theorem zcR (he : (zC x (y0 x day0 (ls.take k)) (gt ls k)).2.2 ≠ 0) : n + 1 = (yV x day0 (ls.take (k + 1))).2 := by
  rw [j6 x day0 hk, if_pos he, hn]
theorem zcQ (he : (zC x (y0 x day0 (ls.take k)) (gt ls k)).2.2 = 0) : n = (yV x day0 (ls.take (k + 1))).2 := by
  rw [j6 x day0 hk, if_neg (fun h => h he), hn]; rfl
end
theorem UH {k : Nat} (hk : k < ls.length) : (yV x day0 (ls.take (k + 1))).1.flatMap strC = (yV x day0 (ls.take k)).1.flatMap strC ++ [st (zC x (y0 x day0 (ls.take k)) (gt ls k)).2.1] := by
  rw [j6 x day0 hk, List.flatMap_append]; rfl
end
def Wn (x : Wick) (ls : List Bs) (v : Value) (D' : Imm) : Prop := ∃ a n c, v = .tuple #[.slice a n c, it (wg x ls).2.1, it (wg x ls).2.2] ∧ SlL D' 1 ((wg x ls).1.map strC) a n
section
variable {x : Wick} {ls : List Bs}
include x ls
theorem ZU (h : 60 < ls.length) : wg x ls = ([], 0, 3) := by unfold wg; rw [if_pos h]
theorem XP (h : ¬ 60 < ls.length) (hv : zS x = false) : wg x ls = ([], 0, 1) := by unfold wg; rw [if_neg h, if_pos hv]
theorem UC (h : ¬ 60 < ls.length) (hv : zS x = true) : wg x ls = ((yV x day0 ls).1, ((yV x day0 ls).2 : Int), 0) := by unfold wg; rw [if_neg h, if_neg (by simp [hv])]
end
section
variable (x : Wick) (m s : Sl) (ls : List Bs) (al : Option Addr) (nl cl : Nat) (D : Imm) (w : World) (hW : yG D x m s) (hS : SlL D 1 (ls.map strC) al nl) (hlen : ∀ q ∈ ls, LnOk x q) (hL : LibW D) (hH : Holds D w)
include x m s ls al nl cl D w hW hS hlen hL hH
theorem zaZ (hk : 60 < ls.length) : y6 Tryz.prog 30 [yL x m s, .slice al nl cl] w D (Wn x ls) := by
  unfold y6;obtain rfl := hS.len';refine en Tryz.func30 rfl Tryz.ntmps30 (Inv.start hH) (g [[1],[1,0,1]] ?_);refine WL.so (SO.box rfl rfl) rfl (zw fun b2 hb2 => ?_);refine g [[7],[4,6,5,4,2,1]] ?_;refine WL.know 14 (.bool true) rfl (congrArg Value.bool (decide_eq_true (by omega))) (g [[4],[8,6,5,4,2,1]] ?_);refine WP.ret3 rfl rfl rfl (RV.tmp rfl) (RV.tmp rfl) (RV.tmp rfl) (fun w1 hI => ⟨_, D, rfl, hI.keep, hI.imm, DExt.refl _ _, none, 0, 0, by rw [ZU hk], by rw [ZU hk]; exact SlL.nil _ _⟩)
theorem zb0 (hk : ¬ 60 < ls.length) (hv : zS x = false) : y6 Tryz.prog 30 [yL x m s, .slice al nl cl] w D (Wn x ls) := by
  unfold y6;obtain rfl := hS.len';refine en Tryz.func30 rfl Tryz.ntmps30 (Inv.start hH) (g [[1],[1,0,1]] ?_);refine WL.so (SO.box rfl rfl) rfl (zw fun b2 hb2 => ?_);refine g [[7],[4,6,5,4,2,1]] ?_;refine WL.know 14 (.bool false) rfl (congrArg Value.bool (decide_eq_false (by omega))) (g [[6],[2,6,5,4,2,1]] ?_);refine WL.so (SO.news (Enters.func CaF.h rfl) (fun w1 hI => Qs x m s D _ hW hI.imm hL)) rfl ?_;rintro _ D3 _ ⟨hp3, hX3, (⟨hv1, xb, m', s', rfl, rfl, hWr⟩ | ⟨hv1, rfl⟩), rfl⟩
  · rw [hv] at hv1; cases hv1
  refine g [[9],[3,6,7,5,4,1]] ?_;refine WL.know 21 (.bool true) rfl rfl (g [[4],[9,6,7,5,4,1]] ?_);refine WP.ret3 rfl rfl rfl (RV.tmp rfl) (RV.tmp rfl) (RV.tmp rfl) (fun w1 hI => ⟨_, D3, rfl, hI.keep, hI.imm, hX3, none, 0, 0, by rw [XP hk hv]; rfl, by rw [XP hk hv]; exact SlL.nil _ _⟩)
theorem zb1 (hk : ¬ 60 < ls.length) (hv : zS x = true) : y6 Tryz.prog 30 [yL x m s, .slice al nl cl] w D (Wn x ls) := by
  unfold y6;obtain rfl := hS.len';refine en Tryz.func30 rfl Tryz.ntmps30 (Inv.start hH) (g [[1],[1,0,1]] ?_);refine WL.so (SO.box rfl rfl) rfl (zw fun b2 hb2 => ?_);refine g [[7],[4,6,5,4,2,1]] ?_;refine WL.know 14 (.bool false) rfl (congrArg Value.bool (decide_eq_false (by omega))) (g [[6],[2,6,5,4,2,1]] ?_);refine WL.so (SO.news (Enters.func CaF.h rfl) (fun w1 hI => Qs x m s D _ hW hI.imm hL)) rfl ?_;rintro _ D3 _ ⟨hp3, hX3, (⟨hv1, xb, m', s', rfl, rfl, hWr⟩ | ⟨hv1, rfl⟩), rfl⟩;rotate_left
  · rw [hv] at hv1; cases hv1
  refine g [[9]] ?_;refine WC.erase 0 (g [[3,6,7,5,4,1]] ?_);refine WL.know 21 (.bool false) rfl rfl (g [[7],[7,6,7,5,4,1]] ?_);refine WC.loop (fun y : Nat × Imm × Option Ow × Sl × Sl × Sl × Nat => [(4, owV y.2.2.1 y.1), (5, nt y.2.2.2.2.2.2), (7, pt xb), (23, .slice al ls.length cl), (24, nt ls.length), (25, nt y.1)]) (fun y => (xb, womO x m' s' y.2.2.2.1 y.2.2.2.2.1 y.2.2.2.2.2.1) :: owH y.2.2.1 9 ((yV x day0 (ls.take y.1)).1.flatMap strC) []) (fun y => y.2.1) (fun y => y.1 ≤ ls.length ∧ DExt w D3 y.2.1 ∧ owP w y.2.2.1 y.1 1 ∧ DayR y.2.1 (y0 x day0 (ls.take y.1)) y.2.2.2.1 y.2.2.2.2.1 y.2.2.2.2.2.1 ∧ y.2.2.2.2.2.2 = (yV x day0 (ls.take y.1)).2) (fun y => ls.length - y.1) ⟨0, D3, none, nilS, nilS, nilS, 0⟩ ⟨by omega, DExt.refl _ _, rfl, DayR.nil _, rfl⟩ (fun a w h => y4 h ⟨rfl, rfl, rfl, rfl, rfl, rfl, trivial⟩) ?_;rintro ⟨k, D1, o, t, l, b, n⟩ ⟨hk7, hX1, ho, hd1, hn⟩;dsimp only at hk7 hX1 ho hd1 hn;have hnb : n ≤ 60 := by rw [hn]; have := (kL x (ls.take k) day0).2; rw [List.length_take] at this; omega
  refine g [[1],[5,4,5,7,23,24,25]] ?_;refine WC.cond rfl (fun c26 => ?_) (fun c26 => ?_)
  · try simp only [zq] at c26
    have hkl : k < ls.length := by omega
    refine g [[5],[1,4,5,7,23,24,25]] ?_;refine WL.yd (Yd.ix rfl rfl (hS.addr k (by omega))) rfl (WL.yd (Yd.l1 rfl ((((hS.ext hX3).ext hX1).at k (by omega)).rd 0 rfl)) rfl (g [[4],[3,9,4,5,7,23,24,25]] ?_));refine WL.so (SO.altersN (own := owH o 9 ((yV x day0 (ls.take k)).1.flatMap strC) []) (hpc := [(xb, womO x m' s' t l b)]) (S1 := [xb]) (fun e he => (List.perm_append_singleton _ _).mem_iff.1 he) (fun hn => ((List.perm_append_singleton _ _).map Prod.fst).nodup_iff.2 hn) (fun _ h => h) (fun _ h => h) (Enters.func CaF.h rfl) (fun w1 hI => hlen _ (gt_mem' hkl) (y0 x day0 (ls.take k)) m' s' t l b xb D1 w1 hv (wc _ (vO hv)) (hWr.ext hX1) hd1 ((hL.ext hX3).ext hX1) hI)) rfl ?_;rintro _ D4 _ ⟨hp4, hX4, ⟨rfl, t1, l1, b1, rfl, hd4⟩, rfl⟩;refine WL.hpPerm ((xb, womO x m' s' t1 l1 b1) :: owH o 9 ((yV x day0 (ls.take k)).1.flatMap strC) []) (List.perm_append_singleton _ _) (g [[9],[5,11,10,4,5,7,23,24,25]] ?_);refine WC.cond rfl (fun c36 => ?_) (fun c36 => ?_)
    · try simp only [zq] at c36
      refine g [[2,10,4,5,7,23,24,25]] ?_;refine WL.know 37 (nt n) rfl rfl (g [[4],[3,5,10,4,7,23,24,25]] ?_);refine WL.so (SO.buildSlice1 UnF.h SzF.h ZvF.h rfl rfl rfl (vs := [_]) rfl rfl rfl) rfl ?_;rintro _ _ _ ⟨b41, hb41, rfl, rfl, rfl⟩;refine WL.so (SO.appendOwW (W := w) (Nat.le_refl _) (o := o) (len := k) (n := 1) (xs := ((yV x day0 (ls.take k)).1.flatMap strC)) (size := 1) [_] [_] [] rfl rfl Tryz.underlying37 Tryz.sizeOf9 Tryz.typeInfo9 Tryz.zeroValue9 rfl rfl rfl rfl ⟨rfl, .inr ⟨_, _, _, rfl, RdN.own (k := 0) (n := 1) rfl rfl⟩⟩ (za rfl) ho (by rw [zr x7, kM (by omega), Nat.mul_one]) (by omega) (by show (2 * (k + 1) + 1000) * 16 ≤ 2 ^ 48; omega) (by omega)) rfl ?_;rintro _ _ _ ⟨u1, hu1, rfl, rfl, rfl⟩;refine g [[4],[4,4,5,7,23,24,25]] ?_;exact WP.again (⟨k + 1, D4, some u1, t1, l1, b1, n + 1⟩ : Nat × Imm × Option Ow × Sl × Sl × Sl × Nat) ⟨by simp only; omega, hX1.trans hX4 (Nat.le_refl _), hu1, by dsimp only; rw [vC x day0 hkl]; exact hd4, zcR hkl hn c36⟩ (by simp only; omega) (fun aa ww h => yM 0 h ⟨rfl, rfl, rfl, rfl, rfl, rfl, trivial⟩ (by dsimp only; rw [UH hkl]; exact List.Perm.refl _) (fun _ _ h => h))
    try simp only [zq] at c36
    refine g [[2],[3,10,4,5,7,23,24,25]] ?_;refine WL.so (SO.buildSlice1 UnF.h SzF.h ZvF.h rfl rfl rfl (vs := [_]) rfl rfl rfl) rfl ?_;rintro _ _ _ ⟨b41, hb41, rfl, rfl, rfl⟩;refine WL.so (SO.appendOwW (W := w) (Nat.le_refl _) (o := o) (len := k) (n := 1) (xs := ((yV x day0 (ls.take k)).1.flatMap strC)) (size := 1) [_] [_] [] rfl rfl Tryz.underlying37 Tryz.sizeOf9 Tryz.typeInfo9 Tryz.zeroValue9 rfl rfl rfl rfl ⟨rfl, .inr ⟨_, _, _, rfl, RdN.own (k := 0) (n := 1) rfl rfl⟩⟩ (za rfl) ho (by rw [zr x7, kM (by omega), Nat.mul_one]) (by omega) (by show (2 * (k + 1) + 1000) * 16 ≤ 2 ^ 48; omega) (by omega)) rfl ?_;rintro _ _ _ ⟨u1, hu1, rfl, rfl, rfl⟩;refine g [[4],[4,4,5,7,23,24,25]] ?_;exact WP.again (⟨k + 1, D4, some u1, t1, l1, b1, n⟩ : Nat × Imm × Option Ow × Sl × Sl × Sl × Nat) ⟨by simp only; omega, hX1.trans hX4 (Nat.le_refl _), hu1, by dsimp only; rw [vC x day0 hkl]; exact hd4, zcQ hkl hn (Decidable.not_not.1 c36)⟩ (by simp only; omega) (fun aa ww h => yM 0 h ⟨rfl, rfl, rfl, rfl, rfl, rfl, trivial⟩ (by dsimp only; rw [UH hkl]; exact List.Perm.refl _) (fun _ _ h => h))
  try simp only [zq] at c26
  obtain rfl : k = ls.length := by omega
  refine g [[6],[3,4,5]] ?_;refine WL.know 44 (.slice (owAt o) ls.length (owCp o ls.length)) rfl (xg (wt ho)) ?_;refine WL.freezeOw (f := strC) (m := 1) x7 [_] [] o 9 (yV x day0 (ls.take ls.length)).1 rfl (by rw [kM (Nat.le_refl _)]; exact ho) rfl (fun D5 hX5 hS5 => ?_);rw [kM (Nat.le_refl _)] at hS5;refine g [[6]] ?_;refine WP.ret3 rfl rfl rfl (RV.tmp rfl) (RV.tmp rfl) (RV.tmp rfl) (fun w1 hI => ⟨_, D5, rfl, hI.keep, hI.imm, (hX3.trans hX1 (Nat.le_refl _)).trans hX5 (Nat.le_refl _), _, _, _, by rw [UC hk hv]; dsimp only; rw [hn, List.take_length], by rw [UC hk hv]; have := hS5; rw [List.take_length] at this; exact this⟩)
theorem znw : y6 Tryz.prog 30 [yL x m s, .slice al nl cl] w D (Wn x ls) := by
  by_cases hk : 60 < ls.length
  · exact zaZ x m s ls al nl cl D w hW hS hlen hL hH hk
  cases hv : zS x with
  | false => exact zb0 x m s ls al nl cl D w hW hS hlen hL hH hk hv
  | true => exact zb1 x m s ls al nl cl D w hW hS hlen hL hH hk hv
end
theorem K0 {α : Type} {a b : List α} (h : a.length = b.length) (h2 : a.take a.length = b.take a.length) : a = b := by
  rw [List.take_length, List.take_of_length_le (by omega)] at h2; exact h2
theorem Z2 {α : Type} [Inhabited α] {a b : List α} {k : Nat} (h1 : k < a.length) (h2 : k < b.length) (h : a.take k = b.take k) (hg : gt a k = gt b k) : a.take (k + 1) = b.take (k + 1) := by
  rw [zP h1, zP h2, h, hg]
theorem zcp (x y : Tick) : ∀ w, (Op.equalIn 10000 41 (.agg (List.toArray (yc x))) (.agg (List.toArray (yc y)))).run Tryz.prog w = .ok (decide (x = y)) w := by
  intro w;obtain ⟨⟨a, b⟩, c, ⟨d, e⟩⟩ := x;obtain ⟨⟨a2, b2⟩, c2, ⟨d2, e2⟩⟩ := y
  have h1 : (Op.equalIn 10000 41 (.agg (List.toArray (yc ⟨⟨a, b⟩, c, ⟨d, e⟩⟩))) (.agg (List.toArray (yc ⟨⟨a2, b2⟩, c2, ⟨d2, e2⟩⟩)))).run Tryz.prog w = .ok (a == a2 && (b == b2 && (c == c2 && (d == d2 && e == e2)))) w := by
    simp [go_sem, Op.eqFields, yc];by_cases h1 : a = a2 <;> by_cases h2 : b = b2 <;> by_cases h3 : c = c2 <;> by_cases h4 : d = d2 <;> by_cases h5 : e = e2 <;> simp_all
  have h9 : (a == a2 && (b == b2 && (c == c2 && (d == d2 && e == e2)))) = decide ((⟨⟨a, b⟩, c, ⟨d, e⟩⟩ : Tick) = ⟨⟨a2, b2⟩, c2, ⟨d2, e2⟩⟩) := by
    rw [Bool.eq_iff_iff]; simp only [Bool.and_eq_true, beq_iff_eq, decide_eq_true_eq, Tick.mk.injEq, Sp.mk.injEq, and_assoc]
  rw [h1, h9]
theorem zco (x y : Look) : ∀ w, (Op.equalIn 10000 44 (.agg (List.toArray (ym x))) (.agg (List.toArray (ym y)))).run Tryz.prog w = .ok (decide (x = y)) w := by
  intro w;obtain ⟨c, b, ⟨d, e⟩⟩ := x;obtain ⟨c2, b2, ⟨d2, e2⟩⟩ := y
  have h1 : (Op.equalIn 10000 44 (.agg (List.toArray (ym ⟨c, b, ⟨d, e⟩⟩))) (.agg (List.toArray (ym ⟨c2, b2, ⟨d2, e2⟩⟩)))).run Tryz.prog w = .ok (c == c2 && (b == b2 && (d == d2 && e == e2))) w := by
    simp [go_sem, Op.eqFields, ym];by_cases h2 : b = b2 <;> by_cases h3 : c = c2 <;> by_cases h4 : d = d2 <;> by_cases h5 : e = e2 <;> simp_all
  have h9 : (c == c2 && (b == b2 && (d == d2 && e == e2))) = decide ((⟨c, b, ⟨d, e⟩⟩ : Look) = ⟨c2, b2, ⟨d2, e2⟩⟩) := by
    rw [Bool.eq_iff_iff]; simp only [Bool.and_eq_true, beq_iff_eq, decide_eq_true_eq, Look.mk.injEq, Sp.mk.injEq, and_assoc]
  rw [h1, h9]
theorem zeh (x y : Ent) : ∀ w, (Op.equalIn 10000 46 (.agg (List.toArray (entC x))) (.agg (List.toArray (entC y)))).run Tryz.prog w = .ok (decide (x = y)) w := by
  intro w;obtain ⟨c, b, d⟩ := x;obtain ⟨c2, b2, d2⟩ := y
  have h1 : (Op.equalIn 10000 46 (.agg (List.toArray (entC ⟨c, b, d⟩))) (.agg (List.toArray (entC ⟨c2, b2, d2⟩)))).run Tryz.prog w = .ok (c == c2 && (b == b2 && d == d2)) w := by
    simp [go_sem, Op.eqFields, entC];by_cases h2 : b = b2 <;> by_cases h3 : c = c2 <;> by_cases h4 : d = d2 <;> simp_all
  have h9 : (c == c2 && (b == b2 && d == d2)) = decide ((⟨c, b, d⟩ : Ent) = ⟨c2, b2, d2⟩) := by
    rw [Bool.eq_iff_iff]; simp only [Bool.and_eq_true, beq_iff_eq, decide_eq_true_eq, Ent.mk.injEq, and_assoc]
  rw [h1, h9]
def UJ (a b : Day) : Bool := decide (a.tks = b.tks ∧ a.looks = b.looks ∧ a.book = b.book)
theorem x6 {a b : Day} : UJ a b = true ↔ a = b := by
  obtain ⟨t, l, k⟩ := a;obtain ⟨t2, l2, k2⟩ := b;unfold UJ;rw [decide_eq_true_eq, Day.mk.injEq]
theorem vE {a b : Day} (h : a ≠ b) : UJ a b = false := by
  rw [Bool.eq_false_iff]; exact fun e => h (x6.1 e)
theorem Vl (A B : List Bs) (a1 a2 : Option Addr) (n1 n2 c1 c2 : Nat) (D : Imm) (h1 : SlL D 1 (A.map strC) a1 n1) (h2 : SlL D 1 (B.map strC) a2 n2) (hA : n1 ≤ 1000) (w : World) (hH : Holds D w) : z8 Tryz.prog 32 [.slice a1 n1 c1, .slice a2 n2 c2] w (.bool (decide (A = B))) := by
  unfold z8;obtain rfl := h1.len';obtain rfl := h2.len';refine en Tryz.func32 rfl Tryz.ntmps32 (Inv.start hH) (g [[1],[6,0,1],[8,4,0,1]] ?_);refine WC.cond rfl (fun c10 => ?_) (fun c10 => ?_)
  · try simp only [zq] at c10
    refine g [[1],[6,4,0,1]] ?_;refine WP.ret1 rfl rfl rfl (RV.tmp rfl) (fun w hI => ⟨zb (decide_eq_false (fun e => by subst e; omega)).symm, hI.keep⟩)
  try simp only [zq] at c10
  refine g [[4],[5,4,0,1]] ?_;refine WC.loopT [] (fun k : Nat => [(0, .slice a1 A.length c1), (1, .slice a2 B.length c2), (5, nt k)]) (fun _ => []) (fun k => k ≤ A.length ∧ A.take k = B.take k) (fun k => A.length - k) 0 ⟨Nat.zero_le _, rfl⟩ rfl ⟨rfl, rfl, rfl, trivial⟩ ?_;rintro k ⟨hk, hF⟩;refine g [[2],[7,0,1,5]] ?_;refine WC.cond rfl (fun c14 => ?_) (fun c14 => ?_)
  · try simp only [zq] at c14
    have hkl : k < A.length := by omega
    refine g [[5],[0,0,1,5],[3008],[2]] ?_;refine WQ.q rfl (Yd.qt (Yd.ix rfl rfl (h1.addr k (by omega)))) rfl (WQ.q rfl (Yd.qt (Yd.l1 rfl ((h1.at k (by omega)).rd 0 rfl))) rfl (g [[2]] ?_));refine WQ.q rfl (Yd.qt (Yd.ix rfl rfl (h2.addr k (by omega)))) rfl (WQ.q rfl (Yd.qt (Yd.l1 rfl ((h2.at k (by omega)).rd 0 rfl))) rfl (g [[1]] ?_));refine WL.yd (Yd.neS' rfl rfl) rfl (g [[2]] ?_);refine WC.cond rfl (fun c25 => ?_) (fun c25 => ?_)
    · try simp only [zq] at c25
      refine g [[1],[10,0,1,5]] ?_;refine WP.ret1 rfl rfl rfl (RV.tmp rfl) (fun w hI => ⟨zb (decide_eq_false (fun e => by subst e; simp at c25)).symm, hI.keep⟩)
    try simp only [zq] at c25
    refine g [[3],[5,0,1,5]] ?_;exact WP.againT (k + 1) ⟨hkl, Z2 hkl (by omega) hF (by simpa using c25)⟩ (by omega) [] _ rfl rfl ⟨rfl, rfl, rfl, trivial⟩
  try simp only [zq] at c14
  obtain rfl : k = A.length := by omega
  refine g [[6]] ?_;refine WC.ofFr [] trivial (g [[5]] ?_);refine WP.ret1 rfl rfl rfl (RV.tmp rfl) (fun w hI => ⟨zb (decide_eq_true (K0 (by omega) hF)).symm, hI.keep⟩)
theorem xW (d1 d2 : Day) (t1 l1 b1 t2 l2 b2' : Sl) (D : Imm) (hR1 : DayR D d1 t1 l1 b1) (hR2 : DayR D d2 t2 l2 b2') (w : World) (hH : Holds D w) : z8 Tryz.prog 21 [.agg #[t1.v, l1.v, b1.v], .agg #[t2.v, l2.v, b2'.v]] w (.bool (UJ d1 d2)) := by
  unfold z8;obtain ⟨ta1, tn1, tc1⟩ := t1;obtain ⟨la1, ln1, lc1⟩ := l1;obtain ⟨ba1, bn1, bc1⟩ := b1;have qt1 : SlL D _ (d1.tks.map _) ta1 tn1 := hR1.tks;have ql1 : SlL D _ (d1.looks.map _) la1 ln1 := hR1.looks;have qb1 : SlL D _ (d1.book.map _) ba1 bn1 := hR1.book;have hln1 := hR1.len;simp only at hln1;obtain rfl : tn1 = d1.tks.length := qt1.len';obtain rfl : ln1 = d1.looks.length := ql1.len';obtain rfl : bn1 = d1.book.length := qb1.len';obtain ⟨ta2, tn2, tc2⟩ := t2;obtain ⟨la2, ln2, lc2⟩ := l2;obtain ⟨ba2, bn2, bc2⟩ := b2';have qt2 : SlL D _ (d2.tks.map _) ta2 tn2 := hR2.tks;have ql2 : SlL D _ (d2.looks.map _) la2 ln2 := hR2.looks;have qb2 : SlL D _ (d2.book.map _) ba2 bn2 := hR2.book;have hln2 := hR2.len;simp only at hln2;obtain rfl : tn2 = d2.tks.length := qt2.len';obtain rfl : ln2 = d2.looks.length := ql2.len';obtain rfl : bn2 = d2.book.length := qb2.len';refine en Tryz.func21 rfl Tryz.ntmps21 (Inv.start hH) (g [[1],[1,0,1]] ?_);refine WL.so (SO.box rfl rfl) rfl (zw fun b2 hb2 => ?_);refine WL.so (SO.box rfl rfl) rfl (zw fun b3 hb3 => ?_);refine g [[5],[9,4,3,2]] ?_;refine WL.part 15 rfl (fun g15 => ?_) (fun g15 => ?_)
  · try simp only [zq] at g15
    refine g [[21],[6,4,3,2]] ?_;refine WP.ret1 rfl rfl rfl (RV.tmp rfl) (fun w hI => ⟨zb (vE (fun e => by subst e; omega)).symm, hI.keep⟩)
  try simp only [zq] at g15
  refine g [[9]] ?_;refine WL.part 24 rfl (fun g24 => ?_) (fun g24 => ?_)
  · try simp only [zq] at g24
    refine g [[12],[6,4,3,2]] ?_;refine WP.ret1 rfl rfl rfl (RV.tmp rfl) (fun w hI => ⟨zb (vE (fun e => by subst e; omega)).symm, hI.keep⟩)
  try simp only [zq] at g24
  refine g [[10]] ?_;refine WC.cond rfl (fun c32 => ?_) (fun c32 => ?_)
  · try simp only [zq] at c32
    refine g [[1],[6,4,3,2]] ?_;refine WP.ret1 rfl rfl rfl (RV.tmp rfl) (fun w hI => ⟨zb (vE (fun e => by subst e; omega)).symm, hI.keep⟩)
  try simp only [zq] at c32
  refine g [[4],[5,4,3,2]] ?_;have hA : d1.tks.length = d2.tks.length ∧ d1.looks.length = d2.looks.length ∧ d1.book.length = d2.book.length := ⟨by omega, by omega, by omega⟩;refine WC.loopT [] (fun k : Nat => [(2, pt b2), (3, pt b3), (5, nt k)]) (fun _ => [(b3, .cells (List.toArray [.slice ta2 d2.tks.length tc2, .slice la2 d2.looks.length lc2, .slice ba2 d2.book.length bc2]) 57 (0, 0)), (b2, .cells (List.toArray [.slice ta1 d1.tks.length tc1, .slice la1 d1.looks.length lc1, .slice ba1 d1.book.length bc1]) 57 (0, 0))]) (fun k => k ≤ d1.tks.length ∧ d1.tks.take k = d2.tks.take k) (fun k => d1.tks.length - k) 0 ⟨Nat.zero_le _, rfl⟩ rfl ⟨rfl, rfl, rfl, trivial⟩ ?_;rintro k ⟨hk, hFt⟩;refine g [[2],[8,2,3,5]] ?_;refine WC.cond rfl (fun c37 => ?_) (fun c37 => ?_)
  · try simp only [zq] at c37
    have hkl : k < d1.tks.length := by omega
    refine g [[5],[0,2,3,5],[3010],[3]] ?_;refine WQ.q rfl (Yd.qt (Yd.ix rfl rfl (qt1.addr k (by omega)))) rfl (WQ.q rfl (Yd.qt (Yd.lV [_, _, _, _, _] rfl ((qt1.at k (by omega)).rdn 0 5 rfl))) rfl (g [[3]] ?_));refine WQ.q rfl (Yd.qt (Yd.ix rfl rfl (qt2.addr k (by omega)))) rfl (WQ.q rfl (Yd.qt (Yd.lV [_, _, _, _, _] rfl ((qt2.at k (by omega)).rdn 0 5 rfl))) rfl (g [[1]] ?_));refine WL.yd (Yd.neS EgF.h (zcp _ _) rfl rfl) rfl (g [[2]] ?_);refine WC.cond rfl (fun c50 => ?_) (fun c50 => ?_)
    · try simp only [zq] at c50
      refine g [[1],[10,2,3,5]] ?_;refine WP.ret1 rfl rfl rfl (RV.tmp rfl) (fun w hI => ⟨zb (vE (fun e => c50 (by rw [e]))).symm, hI.keep⟩)
    try simp only [zq] at c50
    refine g [[3],[5,2,3,5]] ?_;exact WP.againT (k + 1) ⟨hkl, Z2 hkl (by omega) hFt c50⟩ (by omega) [] _ rfl rfl ⟨rfl, rfl, rfl, trivial⟩
  try simp only [zq] at c37
  obtain rfl : k = d1.tks.length := by omega
  refine g [[7],[5,2,3]] ?_;refine WC.loopT [] (fun k : Nat => [(2, pt b2), (3, pt b3), (6, nt k)]) (fun _ => [(b3, .cells (List.toArray [.slice ta2 d2.tks.length tc2, .slice la2 d2.looks.length lc2, .slice ba2 d2.book.length bc2]) 57 (0, 0)), (b2, .cells (List.toArray [.slice ta1 d1.tks.length tc1, .slice la1 d1.looks.length lc1, .slice ba1 d1.book.length bc1]) 57 (0, 0))]) (fun k => k ≤ d1.looks.length ∧ d1.looks.take k = d2.looks.take k) (fun k => d1.looks.length - k) 0 ⟨Nat.zero_le _, rfl⟩ rfl ⟨rfl, rfl, rfl, trivial⟩ ?_;rintro k ⟨hk, hFl⟩;refine g [[2],[8,2,3,6]] ?_;refine WC.cond rfl (fun c55 => ?_) (fun c55 => ?_)
  · try simp only [zq] at c55
    have hkl : k < d1.looks.length := by omega
    refine g [[5],[0,2,3,6],[3010],[3]] ?_;refine WQ.q rfl (Yd.qt (Yd.ix rfl rfl (ql1.addr k (by omega)))) rfl (WQ.q rfl (Yd.qt (Yd.lV [_, _, _, _] rfl ((ql1.at k (by omega)).rdn 0 4 rfl))) rfl (g [[3]] ?_));refine WQ.q rfl (Yd.qt (Yd.ix rfl rfl (ql2.addr k (by omega)))) rfl (WQ.q rfl (Yd.qt (Yd.lV [_, _, _, _] rfl ((ql2.at k (by omega)).rdn 0 4 rfl))) rfl (g [[1]] ?_));refine WL.yd (Yd.neS EgF.h (zco _ _) rfl rfl) rfl (g [[2]] ?_);refine WC.cond rfl (fun c68 => ?_) (fun c68 => ?_)
    · try simp only [zq] at c68
      refine g [[1],[10,2,3,6]] ?_;refine WP.ret1 rfl rfl rfl (RV.tmp rfl) (fun w hI => ⟨zb (vE (fun e => c68 (by rw [e]))).symm, hI.keep⟩)
    try simp only [zq] at c68
    refine g [[3],[5,2,3,6]] ?_;exact WP.againT (k + 1) ⟨hkl, Z2 hkl (by omega) hFl c68⟩ (by omega) [] _ rfl rfl ⟨rfl, rfl, rfl, trivial⟩
  try simp only [zq] at c55
  obtain rfl : k = d1.looks.length := by omega
  refine g [[7],[5,2,3]] ?_;refine WC.loopT [] (fun k : Nat => [(2, pt b2), (3, pt b3), (7, nt k)]) (fun _ => [(b3, .cells (List.toArray [.slice ta2 d2.tks.length tc2, .slice la2 d2.looks.length lc2, .slice ba2 d2.book.length bc2]) 57 (0, 0)), (b2, .cells (List.toArray [.slice ta1 d1.tks.length tc1, .slice la1 d1.looks.length lc1, .slice ba1 d1.book.length bc1]) 57 (0, 0))]) (fun k => k ≤ d1.book.length ∧ d1.book.take k = d2.book.take k) (fun k => d1.book.length - k) 0 ⟨Nat.zero_le _, rfl⟩ rfl ⟨rfl, rfl, rfl, trivial⟩ ?_;rintro k ⟨hk, hFb⟩;refine g [[2],[8,2,3,7]] ?_;refine WC.cond rfl (fun c73 => ?_) (fun c73 => ?_)
  · try simp only [zq] at c73
    have hkl : k < d1.book.length := by omega
    refine g [[5],[0,2,3,7],[3010],[3]] ?_;refine WQ.q rfl (Yd.qt (Yd.ix rfl rfl (qb1.addr k (by omega)))) rfl (WQ.q rfl (Yd.qt (Yd.lV [_, _, _] rfl ((qb1.at k (by omega)).rdn 0 3 rfl))) rfl (g [[3]] ?_));refine WQ.q rfl (Yd.qt (Yd.ix rfl rfl (qb2.addr k (by omega)))) rfl (WQ.q rfl (Yd.qt (Yd.lV [_, _, _] rfl ((qb2.at k (by omega)).rdn 0 3 rfl))) rfl (g [[1]] ?_));refine WL.yd (Yd.neS EgF.h (zeh _ _) rfl rfl) rfl (g [[2]] ?_);refine WC.cond rfl (fun c86 => ?_) (fun c86 => ?_)
    · try simp only [zq] at c86
      refine g [[1],[10,2,3,7]] ?_;refine WP.ret1 rfl rfl rfl (RV.tmp rfl) (fun w hI => ⟨zb (vE (fun e => c86 (by rw [e]))).symm, hI.keep⟩)
    try simp only [zq] at c86
    refine g [[3],[5,2,3,7]] ?_;exact WP.againT (k + 1) ⟨hkl, Z2 hkl (by omega) hFb c86⟩ (by omega) [] _ rfl rfl ⟨rfl, rfl, rfl, trivial⟩
  try simp only [zq] at c73
  obtain rfl : k = d1.book.length := by omega
  refine g [[6]] ?_;refine WC.ofFr [] trivial (g [[5]] ?_);refine WP.ret1 rfl rfl rfl (RV.tmp rfl) (fun w hI => ⟨zb (x6.2 (by have e1 := K0 hA.1 hFt; have e2 := K0 hA.2.1 hFl; have e3 := K0 hA.2.2 hFb; obtain ⟨p1, p2, p3⟩ := d1; simp only at e1 e2 e3; rw [e1, e2, e3])).symm, hI.keep⟩)
end Go.Proofs.YtejgofaeafphjaaGreatDoor
namespace Go.Ti
open Go.W
end Go.Ti
namespace Go.Ti
open Go.W
def YT : Wick := ⟨2, 12, 5, 2, [⟨0, ⟨10, 12⟩⟩, ⟨60, ⟨40, 41⟩⟩, ⟨120, ⟨12, 12⟩⟩], [⟨5, 6⟩, ⟨20, 20⟩]⟩
end Go.Ti
namespace Go.Proofs.YtejgofaeafphjaaGreatDoor
open Go.W Go.Ti
theorem SA49 : zj Tryz.prog 49 [.int .i64 0, .int .i64 0, .int .i64 0, .int .i64 0, .slice none 0 0, .slice none 0 0] [(0, 1), (1, 1), (2, 1), (3, 1), (4, 1), (5, 1)] := ⟨⟨_, Tryz.zeroValue49, rfl⟩, _, Tryz.underlying49, fun w => by simp [Tryz.sizeOf3, Tryz.sizeOf27, Tryz.sizeOf28]⟩
abbrev zdA := SaF.mk SA49
attribute [instance] zdA
theorem SA62 : zj Tryz.prog 62 [.int .i64 0, .int .i64 0, .int .i64 0] [(0, 1), (1, 2)] := ⟨⟨_, Tryz.zeroValue62, rfl⟩, _, Tryz.underlying62, fun w => by simp [Tryz.sizeOf3, Tryz.sizeOf39]⟩
abbrev zdC := SaF.mk SA62
attribute [instance] zdC
theorem SA77 : zj Tryz.prog 77 [.string .empty, .string .empty, .int .i64 0] [(0, 1), (1, 1), (2, 1)] := ⟨⟨_, Tryz.zeroValue77, rfl⟩, _, Tryz.underlying77, fun w => by simp [Tryz.sizeOf9, Tryz.sizeOf51]⟩
abbrev zdD := SaF.mk SA77
attribute [instance] zdD
end Go.Proofs.YtejgofaeafphjaaGreatDoor
