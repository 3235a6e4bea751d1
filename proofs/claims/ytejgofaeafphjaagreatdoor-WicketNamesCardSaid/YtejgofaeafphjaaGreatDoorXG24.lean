import Derived.Test.YtejgofaeafphjaaGreatDoorXG23
import Derived.Test.YtejgofaeafphjaaGreatDoorXG5
import Derived.Test.YtejgofaeafphjaaGreatDoorXG7
set_option linter.unusedSimpArgs false
set_option linter.unusedVariables false
set_option linter.all false
set_option maxRecDepth 100000
set_option maxHeartbeats 4000000
attribute [local irreducible] Go.W.WL Go.W.WLF Go.W.WC Go.W.WCF Go.W.WP Go.W.WA Go.W.WQ Go.W.WH Go.W.WHo Go.W.WCn Go.W.Yd Go.W.Qt Go.W.SO Go.Code.wp Go.Code.wpIn
namespace Go.Proofs.YtejgofaeafphjaaGreatDoor
open Go.W Go.Ti
theorem splice_whole (cs vs : List Value) (h : vs.length = cs.length) : splice cs 0 vs = vs ++ [] := by simp [splice, h]
theorem makes_of_news {P : Program} {f : FuncId} {vals : List Value} {w : World} {D : Imm} {α : Type} [Inhabited α] {gg : α → List Value} {m : Nat} (hg : ∀ x, (gg x).length = m) {l : List α} {E : TypeId}
    (h : News P f vals w D (fun v D' h' => D' = D ∧ ∃ o, v = owV o l.length ∧ owP w o l.length m ∧ h' = owH o E (l.flatMap gg) [])) : Makes P f vals w D (fun v D' => ∃ a c, v = .slice a l.length c ∧ SlL D' m (l.map gg) a l.length ∧ l.length ≤ c) :=
  h.mono fun e w' ⟨v, D', hpc', he, hX, hI, hD, o, hv, ho, hh⟩ => by
    subst hD; subst hh; subst hv
    obtain ⟨D2, hX2, hS, hI2⟩ := Inv.freezeOw hg [] [] o E l ho hI
    refine ⟨_, D2, he, hI2.keep, hI2.imm, hX2, owAt o, owCp o l.length, owV_owL (owL_of ho), hS, ?_⟩
    cases o with
    | none => have h0 : l.length = 0 := ho
              rw [h0]; exact Nat.zero_le _
    | some u => exact ho.2.1
structure Sl where
  a : Option Addr
  n : Nat
  c : Nat
def Sl.v (s : Sl) : Value := .slice s.a s.n s.c
def nilS : Sl := ⟨none, 0, 0⟩
structure WickR (D : Imm) (x : Wick) (m s : Sl) : Prop where
  mark : SlL D 3 (x.marks.map markC) m.a m.n
  sand : SlL D 2 (x.sand.map spanC) s.a s.n
  len : m.n ≤ 1000 ∧ s.n ≤ 1000
structure DayR (D : Imm) (d : Day) (t l b : Sl) : Prop where
  tks : SlL D 5 (d.tks.map tickC) t.a t.n
  looks : SlL D 4 (d.looks.map lookC) l.a l.n
  book : SlL D 3 (d.book.map entC) b.a b.n
  len : t.n ≤ 1000 ∧ l.n ≤ 1000 ∧ b.n ≤ 1000
  cap : t.n ≤ t.c ∧ l.n ≤ l.c ∧ b.n ≤ b.c
theorem WickR.ext {w : World} {D D' : Imm} (hD : DExt w D D') {x : Wick} {m s : Sl} (h : WickR D x m s) : WickR D' x m s := ⟨h.mark.ext hD, h.sand.ext hD, h.len⟩
theorem DayR.ext {w : World} {D D' : Imm} (hD : DExt w D D') {d : Day} {t l b : Sl} (h : DayR D d t l b) : DayR D' d t l b := ⟨h.tks.ext hD, h.looks.ext hD, h.book.ext hD, h.len, h.cap⟩
def womC (x : Wick) (m s t l b : Sl) : List Value := [it x.huts, it x.price, it x.fine, it x.wait, m.v, s.v, t.v, l.v, b.v, .bool true]
def womO (x : Wick) (m s t l b : Sl) : Obj := .cells (List.toArray (womC x m s t l b)) 99 (0, 0)
theorem DayR.nil (D : Imm) : DayR D day0 nilS nilS nilS := ⟨SlL.nil _ _, SlL.nil _ _, SlL.nil _ _, by simp [nilS], by simp [nilS]⟩
theorem tideW_R {D : Imm} {x : Wick} {d : Day} {m s t l b : Sl} (hw : WickR D x m s) (hd : DayR D d t l b) : TideR D (tideW x d) m.a m.n s.a s.n l.a l.n := ⟨hw.mark, hw.sand, hd.looks, hw.len.1, hw.len.2, hd.len.2.1⟩
theorem tksW_R {D : Imm} {x : Wick} {d : Day} {t l b : Sl} (hd : DayR D d t l b) : TksR D (tksW x d) t.a t.n := ⟨hd.tks, hd.len.1⟩
theorem oneMark (x : Go.Ti.Mark) : ∀ v ∈ markC x, v.oneCell' = true := fun v hv => by
  simp only [markC, List.mem_cons, List.not_mem_nil, or_false] at hv
  rcases hv with rfl | rfl | rfl <;> rfl
theorem onesMark (l : List Go.Ti.Mark) : ∀ v ∈ l.flatMap markC, v.oneCell' = true := fun v hv => by
  obtain ⟨x, _, h⟩ := List.mem_flatMap.1 hv
  exact oneMark x v h
theorem copiedMark_g (l : List Go.Ti.Mark) (a : Option Addr) (n c : Nat) (D : Imm) (hS : SlL D 3 (l.map markC) a n) (hn : n ≤ 1000) (w w0 : World) (hs0 : w0.heap.size ≤ w.heap.size) (hH : Holds D w) : News Tryz.prog 63 [.slice a n c] w D (fun v D' h' => D' = D ∧ ∃ o, v = owV o l.length ∧ owP w0 o l.length 3 ∧ h' = owH o 62 (l.flatMap markC) []) := by
  unfold News
  obtain rfl := hS.len'
  refine en Tryz.func63 rfl Tryz.ntmps63 (Inv.start hH) (g [[1],[6,0],[6,2,0]] ?_)
  refine WC.cond rfl (fun c6 => ?_) (fun c6 => ?_)
  · try simp only [zq] at c6
    obtain rfl : l = [] := List.length_eq_zero_iff.1 (by omega)
    refine g [[1],[6,2,0]] ?_
    refine WP.ret1 rfl rfl rfl (RV.tmp rfl) (fun w1 hI => ⟨_, D, [], rfl, DExt.refl _ _, hI, rfl, none, rfl, rfl, rfl⟩)
  try simp only [zq] at c6
  have hne : l.length ≠ 0 := by omega
  refine g [[3],[3,2,0]] ?_
  refine WL.so (SO.makeSlice Tryz.underlying27 Tryz.sizeOf62 Tryz.typeInfo62 Tryz.zeroValue62 rfl rfl rfl (by omega) (by show (24 : Int) * _ ≤ _; omega)) rfl ?_
  rintro _ _ _ ⟨b9, hb9, rfl, rfl, rfl⟩
  refine g [[4],[3,3,2,0]] ?_
  refine WL.so (SO.copy (k := 0) (cs := zeroL [.int .i64 0, .int .i64 0, .int .i64 0] (l.length * 3)) rfl Tryz.underlying27 Tryz.sizeOf62 rfl rfl rfl (ys := l.flatMap markC) (hS.rdS markC_len (fun e => by subst e; simp at hne)) (onesMark l) (by rw [zeroL_len, flat_len markC_len]; exact Nat.le_refl _)) rfl ?_
  rintro _ _ _ ⟨rfl, rfl⟩
  rw [splice_whole (zeroL [.int .i64 0, .int .i64 0, .int .i64 0] (l.length * 3)) (l.flatMap markC) (by rw [zeroL_len, flat_len markC_len])]
  refine g [[3],[6,3,2]] ?_
  refine WP.ret1 rfl rfl rfl (RV.tmp rfl) (fun w1 hI => ⟨_, D, _, rfl, DExt.refl _ _, hI, rfl, some ⟨b9, l.length, []⟩, rfl, ⟨Nat.le_trans hs0 hb9, Nat.le_refl _, by simp⟩, rfl⟩)
theorem oneSpan (x : Sp) : ∀ v ∈ spanC x, v.oneCell' = true := fun v hv => by
  simp only [spanC, List.mem_cons, List.not_mem_nil, or_false] at hv
  rcases hv with rfl | rfl <;> rfl
theorem onesSpan (l : List Sp) : ∀ v ∈ l.flatMap spanC, v.oneCell' = true := fun v hv => by
  obtain ⟨x, _, h⟩ := List.mem_flatMap.1 hv
  exact oneSpan x v h
theorem copiedSpan_g (l : List Sp) (a : Option Addr) (n c : Nat) (D : Imm) (hS : SlL D 2 (l.map spanC) a n) (hn : n ≤ 1000) (w w0 : World) (hs0 : w0.heap.size ≤ w.heap.size) (hH : Holds D w) : News Tryz.prog 64 [.slice a n c] w D (fun v D' h' => D' = D ∧ ∃ o, v = owV o l.length ∧ owP w0 o l.length 2 ∧ h' = owH o 39 (l.flatMap spanC) []) := by
  unfold News
  obtain rfl := hS.len'
  refine en Tryz.func64 rfl Tryz.ntmps64 (Inv.start hH) (g [[1],[6,0],[6,2,0]] ?_)
  refine WC.cond rfl (fun c6 => ?_) (fun c6 => ?_)
  · try simp only [zq] at c6
    obtain rfl : l = [] := List.length_eq_zero_iff.1 (by omega)
    refine g [[1],[6,2,0]] ?_
    refine WP.ret1 rfl rfl rfl (RV.tmp rfl) (fun w1 hI => ⟨_, D, [], rfl, DExt.refl _ _, hI, rfl, none, rfl, rfl, rfl⟩)
  try simp only [zq] at c6
  have hne : l.length ≠ 0 := by omega
  refine g [[3],[3,2,0]] ?_
  refine WL.so (SO.makeSlice Tryz.underlying28 Tryz.sizeOf39 Tryz.typeInfo39 Tryz.zeroValue39 rfl rfl rfl (by omega) (by show (16 : Int) * _ ≤ _; omega)) rfl ?_
  rintro _ _ _ ⟨b9, hb9, rfl, rfl, rfl⟩
  refine g [[4],[3,3,2,0]] ?_
  refine WL.so (SO.copy (k := 0) (cs := zeroL [.int .i64 0, .int .i64 0] (l.length * 2)) rfl Tryz.underlying28 Tryz.sizeOf39 rfl rfl rfl (ys := l.flatMap spanC) (hS.rdS spanC_len (fun e => by subst e; simp at hne)) (onesSpan l) (by rw [zeroL_len, flat_len spanC_len]; exact Nat.le_refl _)) rfl ?_
  rintro _ _ _ ⟨rfl, rfl⟩
  rw [splice_whole (zeroL [.int .i64 0, .int .i64 0] (l.length * 2)) (l.flatMap spanC) (by rw [zeroL_len, flat_len spanC_len])]
  refine g [[3],[6,3,2]] ?_
  refine WP.ret1 rfl rfl rfl (RV.tmp rfl) (fun w1 hI => ⟨_, D, _, rfl, DExt.refl _ _, hI, rfl, some ⟨b9, l.length, []⟩, rfl, ⟨Nat.le_trans hs0 hb9, Nat.le_refl _, by simp⟩, rfl⟩)
theorem oneTick (x : Tick) : ∀ v ∈ tickC x, v.oneCell' = true := fun v hv => by
  simp only [tickC, List.mem_cons, List.not_mem_nil, or_false] at hv
  rcases hv with rfl | rfl | rfl | rfl | rfl <;> rfl
theorem onesTick (l : List Tick) : ∀ v ∈ l.flatMap tickC, v.oneCell' = true := fun v hv => by
  obtain ⟨x, _, h⟩ := List.mem_flatMap.1 hv
  exact oneTick x v h
theorem copiedTick_g (l : List Tick) (a : Option Addr) (n c : Nat) (D : Imm) (hS : SlL D 5 (l.map tickC) a n) (hn : n ≤ 1000) (w w0 : World) (hs0 : w0.heap.size ≤ w.heap.size) (hH : Holds D w) : News Tryz.prog 75 [.slice a n c] w D (fun v D' h' => D' = D ∧ ∃ o, v = owV o l.length ∧ owP w0 o l.length 5 ∧ h' = owH o 41 (l.flatMap tickC) []) := by
  unfold News
  obtain rfl := hS.len'
  refine en Tryz.func75 rfl Tryz.ntmps75 (Inv.start hH) (g [[1],[6,0],[6,2,0]] ?_)
  refine WC.cond rfl (fun c6 => ?_) (fun c6 => ?_)
  · try simp only [zq] at c6
    obtain rfl : l = [] := List.length_eq_zero_iff.1 (by omega)
    refine g [[1],[6,2,0]] ?_
    refine WP.ret1 rfl rfl rfl (RV.tmp rfl) (fun w1 hI => ⟨_, D, [], rfl, DExt.refl _ _, hI, rfl, none, rfl, rfl, rfl⟩)
  try simp only [zq] at c6
  have hne : l.length ≠ 0 := by omega
  refine g [[3],[3,2,0]] ?_
  refine WL.so (SO.makeSlice Tryz.underlying22 Tryz.sizeOf41 Tryz.typeInfo41 Tryz.zeroValue41 rfl rfl rfl (by omega) (by show (40 : Int) * _ ≤ _; omega)) rfl ?_
  rintro _ _ _ ⟨b9, hb9, rfl, rfl, rfl⟩
  refine g [[4],[3,3,2,0]] ?_
  refine WL.so (SO.copy (k := 0) (cs := zeroL [.int .i64 0, .int .i64 0, .int .i64 0, .int .i64 0, .int .i64 0] (l.length * 5)) rfl Tryz.underlying22 Tryz.sizeOf41 rfl rfl rfl (ys := l.flatMap tickC) (hS.rdS tickC_len (fun e => by subst e; simp at hne)) (onesTick l) (by rw [zeroL_len, flat_len tickC_len]; exact Nat.le_refl _)) rfl ?_
  rintro _ _ _ ⟨rfl, rfl⟩
  rw [splice_whole (zeroL [.int .i64 0, .int .i64 0, .int .i64 0, .int .i64 0, .int .i64 0] (l.length * 5)) (l.flatMap tickC) (by rw [zeroL_len, flat_len tickC_len])]
  refine g [[3],[6,3,2]] ?_
  refine WP.ret1 rfl rfl rfl (RV.tmp rfl) (fun w1 hI => ⟨_, D, _, rfl, DExt.refl _ _, hI, rfl, some ⟨b9, l.length, []⟩, rfl, ⟨Nat.le_trans hs0 hb9, Nat.le_refl _, by simp⟩, rfl⟩)
theorem oneLook (x : Look) : ∀ v ∈ lookC x, v.oneCell' = true := fun v hv => by
  simp only [lookC, List.mem_cons, List.not_mem_nil, or_false] at hv
  rcases hv with rfl | rfl | rfl | rfl <;> rfl
theorem onesLook (l : List Look) : ∀ v ∈ l.flatMap lookC, v.oneCell' = true := fun v hv => by
  obtain ⟨x, _, h⟩ := List.mem_flatMap.1 hv
  exact oneLook x v h
theorem copiedLook_g (l : List Look) (a : Option Addr) (n c : Nat) (D : Imm) (hS : SlL D 4 (l.map lookC) a n) (hn : n ≤ 1000) (w w0 : World) (hs0 : w0.heap.size ≤ w.heap.size) (hH : Holds D w) : News Tryz.prog 76 [.slice a n c] w D (fun v D' h' => D' = D ∧ ∃ o, v = owV o l.length ∧ owP w0 o l.length 4 ∧ h' = owH o 44 (l.flatMap lookC) []) := by
  unfold News
  obtain rfl := hS.len'
  refine en Tryz.func76 rfl Tryz.ntmps76 (Inv.start hH) (g [[1],[6,0],[6,2,0]] ?_)
  refine WC.cond rfl (fun c6 => ?_) (fun c6 => ?_)
  · try simp only [zq] at c6
    obtain rfl : l = [] := List.length_eq_zero_iff.1 (by omega)
    refine g [[1],[6,2,0]] ?_
    refine WP.ret1 rfl rfl rfl (RV.tmp rfl) (fun w1 hI => ⟨_, D, [], rfl, DExt.refl _ _, hI, rfl, none, rfl, rfl, rfl⟩)
  try simp only [zq] at c6
  have hne : l.length ≠ 0 := by omega
  refine g [[3],[3,2,0]] ?_
  refine WL.so (SO.makeSlice Tryz.underlying29 Tryz.sizeOf44 Tryz.typeInfo44 Tryz.zeroValue44 rfl rfl rfl (by omega) (by show (32 : Int) * _ ≤ _; omega)) rfl ?_
  rintro _ _ _ ⟨b9, hb9, rfl, rfl, rfl⟩
  refine g [[4],[3,3,2,0]] ?_
  refine WL.so (SO.copy (k := 0) (cs := zeroL [.int .i64 0, .int .i64 0, .int .i64 0, .int .i64 0] (l.length * 4)) rfl Tryz.underlying29 Tryz.sizeOf44 rfl rfl rfl (ys := l.flatMap lookC) (hS.rdS lookC_len (fun e => by subst e; simp at hne)) (onesLook l) (by rw [zeroL_len, flat_len lookC_len]; exact Nat.le_refl _)) rfl ?_
  rintro _ _ _ ⟨rfl, rfl⟩
  rw [splice_whole (zeroL [.int .i64 0, .int .i64 0, .int .i64 0, .int .i64 0] (l.length * 4)) (l.flatMap lookC) (by rw [zeroL_len, flat_len lookC_len])]
  refine g [[3],[6,3,2]] ?_
  refine WP.ret1 rfl rfl rfl (RV.tmp rfl) (fun w1 hI => ⟨_, D, _, rfl, DExt.refl _ _, hI, rfl, some ⟨b9, l.length, []⟩, rfl, ⟨Nat.le_trans hs0 hb9, Nat.le_refl _, by simp⟩, rfl⟩)
theorem oneEnt (x : Ent) : ∀ v ∈ entC x, v.oneCell' = true := fun v hv => by
  simp only [entC, List.mem_cons, List.not_mem_nil, or_false] at hv
  rcases hv with rfl | rfl | rfl <;> rfl
theorem onesEnt (l : List Ent) : ∀ v ∈ l.flatMap entC, v.oneCell' = true := fun v hv => by
  obtain ⟨x, _, h⟩ := List.mem_flatMap.1 hv
  exact oneEnt x v h
theorem copiedEnt_g (l : List Ent) (a : Option Addr) (n c : Nat) (D : Imm) (hS : SlL D 3 (l.map entC) a n) (hn : n ≤ 1000) (w w0 : World) (hs0 : w0.heap.size ≤ w.heap.size) (hH : Holds D w) : News Tryz.prog 77 [.slice a n c] w D (fun v D' h' => D' = D ∧ ∃ o, v = owV o l.length ∧ owP w0 o l.length 3 ∧ h' = owH o 46 (l.flatMap entC) []) := by
  unfold News
  obtain rfl := hS.len'
  refine en Tryz.func77 rfl Tryz.ntmps77 (Inv.start hH) (g [[1],[6,0],[6,2,0]] ?_)
  refine WC.cond rfl (fun c6 => ?_) (fun c6 => ?_)
  · try simp only [zq] at c6
    obtain rfl : l = [] := List.length_eq_zero_iff.1 (by omega)
    refine g [[1],[6,2,0]] ?_
    refine WP.ret1 rfl rfl rfl (RV.tmp rfl) (fun w1 hI => ⟨_, D, [], rfl, DExt.refl _ _, hI, rfl, none, rfl, rfl, rfl⟩)
  try simp only [zq] at c6
  have hne : l.length ≠ 0 := by omega
  refine g [[3],[3,2,0]] ?_
  refine WL.so (SO.makeSlice Tryz.underlying32 Tryz.sizeOf46 Tryz.typeInfo46 Tryz.zeroValue46 rfl rfl rfl (by omega) (by show (24 : Int) * _ ≤ _; omega)) rfl ?_
  rintro _ _ _ ⟨b9, hb9, rfl, rfl, rfl⟩
  refine g [[4],[3,3,2,0]] ?_
  refine WL.so (SO.copy (k := 0) (cs := zeroL [.int .i64 0, .int .i64 0, .int .i64 0] (l.length * 3)) rfl Tryz.underlying32 Tryz.sizeOf46 rfl rfl rfl (ys := l.flatMap entC) (hS.rdS entC_len (fun e => by subst e; simp at hne)) (onesEnt l) (by rw [zeroL_len, flat_len entC_len]; exact Nat.le_refl _)) rfl ?_
  rintro _ _ _ ⟨rfl, rfl⟩
  rw [splice_whole (zeroL [.int .i64 0, .int .i64 0, .int .i64 0] (l.length * 3)) (l.flatMap entC) (by rw [zeroL_len, flat_len entC_len])]
  refine g [[3],[6,3,2]] ?_
  refine WP.ret1 rfl rfl rfl (RV.tmp rfl) (fun w1 hI => ⟨_, D, _, rfl, DExt.refl _ _, hI, rfl, some ⟨b9, l.length, []⟩, rfl, ⟨Nat.le_trans hs0 hb9, Nat.le_refl _, by simp⟩, rfl⟩)
theorem grownTick_g (l : List Tick) (x : Tick) (a : Option Addr) (n c : Nat) (D : Imm) (hS : SlL D 5 (l.map tickC) a n) (hn : n ≤ 1000) (w : World) (hH : Holds D w) : Makes Tryz.prog 222 [.slice a n c, .agg (List.toArray (tickC x))] w D (fun v D' => ∃ a c, v = .slice a (l ++ [x]).length c ∧ SlL D' 5 ((l ++ [x]).map tickC) a (l ++ [x]).length ∧ (l ++ [x]).length ≤ c) := by
  unfold Makes
  obtain rfl := hS.len'
  refine en Tryz.func222 rfl Tryz.ntmps222 (Inv.start hH) (g [[1],[1,0,1]] ?_)
  refine WL.so (SO.box rfl rfl) rfl (zw fun b3 hb3 => ?_)
  refine g [[4],[0,4,3,0]] ?_
  refine WC.drawH [_] zk (fun _ hI => hI) (g [[1000],[1002]] ?_)
  refine WH.two (i := 1) (j := 3) zk ?_ ?_
  · refine WHo.so rfl (SO.news (Enters.func CaF.h rfl) (fun w1 hI => copiedTick_g l a _ c D hS (by omega) w1 w hI.keep.size hI.imm)) rfl ?_
    rintro _ _ _ ⟨hp6, hX6, ⟨rfl, o, rfl, ho, rfl⟩, rfl⟩
    refine ⟨(fun _ hI => Inv.left (l1 := [_]) hI), ?_⟩
    refine WH.one (i := 3) zk (WHo.so rfl (SO.buildRows UnF.h SzF.h ZvF.h rfl rfl rfl (rows := [tickC x]) rfl (by intro r hr; obtain rfl := List.mem_singleton.1 hr; rfl) rfl) rfl ?_)
    rintro _ _ _ ⟨b8, hb8, rfl, rfl, rfl⟩
    refine ⟨(fun _ hI => Inv.left (l1 := [_]) hI.tail), ?_⟩
    refine WH.one (i := 4) zk (WHo.so rfl (SO.appendOwW (W := w) (Nat.le_refl _) (o := o) (len := l.length) (n := 1) (xs := (l.flatMap tickC)) (size := 5) [_] [_] [] rfl rfl Tryz.underlying22 Tryz.sizeOf41 Tryz.typeInfo41 Tryz.zeroValue41 rfl rfl rfl rfl ⟨rfl, .inr ⟨_, _, _, rfl, RdN.own (k := 0) (n := 5) rfl rfl⟩⟩ (oneB_spec rfl) ho (flat_len tickC_len l) (by omega) (by show (2 * (_ + _) + 1000) * 40 ≤ 2 ^ 48; omega) (by omega)) rfl ?_)
    rintro _ _ _ ⟨u1, hu1, rfl, rfl, rfl⟩
    refine ⟨(fun _ hI => Inv.left (l1 := [_]) hI), ?_⟩
    refine WH.know 9 (.slice (owAt (some u1)) (l ++ [x]).length (owCp (some u1) (l ++ [x]).length)) rfl (by rw [List.length_append]; rfl) ?_
    refine WH.freezeOw (f := tickC) (m := 5) tickC_len [_] [] (some u1) 41 (l ++ [x]) rfl (by rw [List.length_append]; exact hu1) (by rw [List.flatMap_append]; rfl) (fun D2 hX2 hS2 => ?_)
    refine g [[1005]] ?_
    refine WH.nil zk (g [[2]] ?_)
    refine WP.ret1 rfl rfl rfl (RV.tmp rfl) (fun w1 hI => ⟨_, D2, rfl, hI.keep, hI.imm, hX2, _, _, rfl, hS2, by rw [List.length_append]; exact hu1.2.1⟩)
  refine WHo.so rfl (SO.buildRows UnF.h SzF.h ZvF.h rfl rfl rfl (rows := [tickC x]) rfl (by intro r hr; obtain rfl := List.mem_singleton.1 hr; rfl) rfl) rfl ?_
  rintro _ _ _ ⟨b8, hb8, rfl, rfl, rfl⟩
  refine ⟨(fun _ hI => hI.tail), ?_⟩
  refine WH.one (i := 1) zk (WHo.so rfl (SO.news (Enters.func CaF.h rfl) (fun w1 hI => copiedTick_g l a _ c D hS (by omega) w1 w hI.keep.size hI.imm)) rfl ?_)
  rintro _ _ _ ⟨hp6, hX6, ⟨rfl, o, rfl, ho, rfl⟩, rfl⟩
  refine ⟨(fun _ hI => Inv.left (l1 := [_]) hI.tail), ?_⟩
  refine WH.one (i := 4) zk (WHo.so rfl (SO.appendOwW (W := w) (Nat.le_refl _) (o := o) (len := l.length) (n := 1) (xs := (l.flatMap tickC)) (size := 5) [_] [_] [] rfl rfl Tryz.underlying22 Tryz.sizeOf41 Tryz.typeInfo41 Tryz.zeroValue41 rfl rfl rfl rfl ⟨rfl, .inr ⟨_, _, _, rfl, RdN.own (k := 0) (n := 5) rfl rfl⟩⟩ (oneB_spec rfl) ho (flat_len tickC_len l) (by omega) (by show (2 * (_ + _) + 1000) * 40 ≤ 2 ^ 48; omega) (by omega)) rfl ?_)
  rintro _ _ _ ⟨u1, hu1, rfl, rfl, rfl⟩
  refine ⟨(fun _ hI => Inv.left (l1 := [_]) hI), ?_⟩
  refine WH.know 9 (.slice (owAt (some u1)) (l ++ [x]).length (owCp (some u1) (l ++ [x]).length)) rfl (by rw [List.length_append]; rfl) ?_
  refine WH.freezeOw (f := tickC) (m := 5) tickC_len [_] [] (some u1) 41 (l ++ [x]) rfl (by rw [List.length_append]; exact hu1) (by rw [List.flatMap_append]; rfl) (fun D2 hX2 hS2 => ?_)
  refine g [[1005]] ?_
  refine WH.nil zk (g [[2]] ?_)
  refine WP.ret1 rfl rfl rfl (RV.tmp rfl) (fun w1 hI => ⟨_, D2, rfl, hI.keep, hI.imm, hX2, _, _, rfl, hS2, by rw [List.length_append]; exact hu1.2.1⟩)
theorem grownLook_g (l : List Look) (x : Look) (a : Option Addr) (n c : Nat) (D : Imm) (hS : SlL D 4 (l.map lookC) a n) (hn : n ≤ 1000) (w : World) (hH : Holds D w) : Makes Tryz.prog 224 [.slice a n c, .agg (List.toArray (lookC x))] w D (fun v D' => ∃ a c, v = .slice a (l ++ [x]).length c ∧ SlL D' 4 ((l ++ [x]).map lookC) a (l ++ [x]).length ∧ (l ++ [x]).length ≤ c) := by
  unfold Makes
  obtain rfl := hS.len'
  refine en Tryz.func224 rfl Tryz.ntmps224 (Inv.start hH) (g [[1],[1,0,1]] ?_)
  refine WL.so (SO.box rfl rfl) rfl (zw fun b3 hb3 => ?_)
  refine g [[4],[0,4,3,0]] ?_
  refine WC.drawH [_] zk (fun _ hI => hI) (g [[1000],[1002]] ?_)
  refine WH.two (i := 1) (j := 3) zk ?_ ?_
  · refine WHo.so rfl (SO.news (Enters.func CaF.h rfl) (fun w1 hI => copiedLook_g l a _ c D hS (by omega) w1 w hI.keep.size hI.imm)) rfl ?_
    rintro _ _ _ ⟨hp6, hX6, ⟨rfl, o, rfl, ho, rfl⟩, rfl⟩
    refine ⟨(fun _ hI => Inv.left (l1 := [_]) hI), ?_⟩
    refine WH.one (i := 3) zk (WHo.so rfl (SO.buildRows UnF.h SzF.h ZvF.h rfl rfl rfl (rows := [lookC x]) rfl (by intro r hr; obtain rfl := List.mem_singleton.1 hr; rfl) rfl) rfl ?_)
    rintro _ _ _ ⟨b8, hb8, rfl, rfl, rfl⟩
    refine ⟨(fun _ hI => Inv.left (l1 := [_]) hI.tail), ?_⟩
    refine WH.one (i := 4) zk (WHo.so rfl (SO.appendOwW (W := w) (Nat.le_refl _) (o := o) (len := l.length) (n := 1) (xs := (l.flatMap lookC)) (size := 4) [_] [_] [] rfl rfl Tryz.underlying29 Tryz.sizeOf44 Tryz.typeInfo44 Tryz.zeroValue44 rfl rfl rfl rfl ⟨rfl, .inr ⟨_, _, _, rfl, RdN.own (k := 0) (n := 4) rfl rfl⟩⟩ (oneB_spec rfl) ho (flat_len lookC_len l) (by omega) (by show (2 * (_ + _) + 1000) * 32 ≤ 2 ^ 48; omega) (by omega)) rfl ?_)
    rintro _ _ _ ⟨u1, hu1, rfl, rfl, rfl⟩
    refine ⟨(fun _ hI => Inv.left (l1 := [_]) hI), ?_⟩
    refine WH.know 9 (.slice (owAt (some u1)) (l ++ [x]).length (owCp (some u1) (l ++ [x]).length)) rfl (by rw [List.length_append]; rfl) ?_
    refine WH.freezeOw (f := lookC) (m := 4) lookC_len [_] [] (some u1) 44 (l ++ [x]) rfl (by rw [List.length_append]; exact hu1) (by rw [List.flatMap_append]; rfl) (fun D2 hX2 hS2 => ?_)
    refine g [[1005]] ?_
    refine WH.nil zk (g [[2]] ?_)
    refine WP.ret1 rfl rfl rfl (RV.tmp rfl) (fun w1 hI => ⟨_, D2, rfl, hI.keep, hI.imm, hX2, _, _, rfl, hS2, by rw [List.length_append]; exact hu1.2.1⟩)
  refine WHo.so rfl (SO.buildRows UnF.h SzF.h ZvF.h rfl rfl rfl (rows := [lookC x]) rfl (by intro r hr; obtain rfl := List.mem_singleton.1 hr; rfl) rfl) rfl ?_
  rintro _ _ _ ⟨b8, hb8, rfl, rfl, rfl⟩
  refine ⟨(fun _ hI => hI.tail), ?_⟩
  refine WH.one (i := 1) zk (WHo.so rfl (SO.news (Enters.func CaF.h rfl) (fun w1 hI => copiedLook_g l a _ c D hS (by omega) w1 w hI.keep.size hI.imm)) rfl ?_)
  rintro _ _ _ ⟨hp6, hX6, ⟨rfl, o, rfl, ho, rfl⟩, rfl⟩
  refine ⟨(fun _ hI => Inv.left (l1 := [_]) hI.tail), ?_⟩
  refine WH.one (i := 4) zk (WHo.so rfl (SO.appendOwW (W := w) (Nat.le_refl _) (o := o) (len := l.length) (n := 1) (xs := (l.flatMap lookC)) (size := 4) [_] [_] [] rfl rfl Tryz.underlying29 Tryz.sizeOf44 Tryz.typeInfo44 Tryz.zeroValue44 rfl rfl rfl rfl ⟨rfl, .inr ⟨_, _, _, rfl, RdN.own (k := 0) (n := 4) rfl rfl⟩⟩ (oneB_spec rfl) ho (flat_len lookC_len l) (by omega) (by show (2 * (_ + _) + 1000) * 32 ≤ 2 ^ 48; omega) (by omega)) rfl ?_)
  rintro _ _ _ ⟨u1, hu1, rfl, rfl, rfl⟩
  refine ⟨(fun _ hI => Inv.left (l1 := [_]) hI), ?_⟩
  refine WH.know 9 (.slice (owAt (some u1)) (l ++ [x]).length (owCp (some u1) (l ++ [x]).length)) rfl (by rw [List.length_append]; rfl) ?_
  refine WH.freezeOw (f := lookC) (m := 4) lookC_len [_] [] (some u1) 44 (l ++ [x]) rfl (by rw [List.length_append]; exact hu1) (by rw [List.flatMap_append]; rfl) (fun D2 hX2 hS2 => ?_)
  refine g [[1005]] ?_
  refine WH.nil zk (g [[2]] ?_)
  refine WP.ret1 rfl rfl rfl (RV.tmp rfl) (fun w1 hI => ⟨_, D2, rfl, hI.keep, hI.imm, hX2, _, _, rfl, hS2, by rw [List.length_append]; exact hu1.2.1⟩)
theorem grownEnt_g (l : List Ent) (x : Ent) (a : Option Addr) (n c : Nat) (D : Imm) (hS : SlL D 3 (l.map entC) a n) (hn : n ≤ 1000) (w : World) (hH : Holds D w) : Makes Tryz.prog 227 [.slice a n c, .agg (List.toArray (entC x))] w D (fun v D' => ∃ a c, v = .slice a (l ++ [x]).length c ∧ SlL D' 3 ((l ++ [x]).map entC) a (l ++ [x]).length ∧ (l ++ [x]).length ≤ c) := by
  unfold Makes
  obtain rfl := hS.len'
  refine en Tryz.func227 rfl Tryz.ntmps227 (Inv.start hH) (g [[1],[1,0,1]] ?_)
  refine WL.so (SO.box rfl rfl) rfl (zw fun b3 hb3 => ?_)
  refine g [[4],[0,4,3,0]] ?_
  refine WC.drawH [_] zk (fun _ hI => hI) (g [[1000],[1002]] ?_)
  refine WH.two (i := 1) (j := 3) zk ?_ ?_
  · refine WHo.so rfl (SO.news (Enters.func CaF.h rfl) (fun w1 hI => copiedEnt_g l a _ c D hS (by omega) w1 w hI.keep.size hI.imm)) rfl ?_
    rintro _ _ _ ⟨hp6, hX6, ⟨rfl, o, rfl, ho, rfl⟩, rfl⟩
    refine ⟨(fun _ hI => Inv.left (l1 := [_]) hI), ?_⟩
    refine WH.one (i := 3) zk (WHo.so rfl (SO.buildRows UnF.h SzF.h ZvF.h rfl rfl rfl (rows := [entC x]) rfl (by intro r hr; obtain rfl := List.mem_singleton.1 hr; rfl) rfl) rfl ?_)
    rintro _ _ _ ⟨b8, hb8, rfl, rfl, rfl⟩
    refine ⟨(fun _ hI => Inv.left (l1 := [_]) hI.tail), ?_⟩
    refine WH.one (i := 4) zk (WHo.so rfl (SO.appendOwW (W := w) (Nat.le_refl _) (o := o) (len := l.length) (n := 1) (xs := (l.flatMap entC)) (size := 3) [_] [_] [] rfl rfl Tryz.underlying32 Tryz.sizeOf46 Tryz.typeInfo46 Tryz.zeroValue46 rfl rfl rfl rfl ⟨rfl, .inr ⟨_, _, _, rfl, RdN.own (k := 0) (n := 3) rfl rfl⟩⟩ (oneB_spec rfl) ho (flat_len entC_len l) (by omega) (by show (2 * (_ + _) + 1000) * 24 ≤ 2 ^ 48; omega) (by omega)) rfl ?_)
    rintro _ _ _ ⟨u1, hu1, rfl, rfl, rfl⟩
    refine ⟨(fun _ hI => Inv.left (l1 := [_]) hI), ?_⟩
    refine WH.know 9 (.slice (owAt (some u1)) (l ++ [x]).length (owCp (some u1) (l ++ [x]).length)) rfl (by rw [List.length_append]; rfl) ?_
    refine WH.freezeOw (f := entC) (m := 3) entC_len [_] [] (some u1) 46 (l ++ [x]) rfl (by rw [List.length_append]; exact hu1) (by rw [List.flatMap_append]; rfl) (fun D2 hX2 hS2 => ?_)
    refine g [[1005]] ?_
    refine WH.nil zk (g [[2]] ?_)
    refine WP.ret1 rfl rfl rfl (RV.tmp rfl) (fun w1 hI => ⟨_, D2, rfl, hI.keep, hI.imm, hX2, _, _, rfl, hS2, by rw [List.length_append]; exact hu1.2.1⟩)
  refine WHo.so rfl (SO.buildRows UnF.h SzF.h ZvF.h rfl rfl rfl (rows := [entC x]) rfl (by intro r hr; obtain rfl := List.mem_singleton.1 hr; rfl) rfl) rfl ?_
  rintro _ _ _ ⟨b8, hb8, rfl, rfl, rfl⟩
  refine ⟨(fun _ hI => hI.tail), ?_⟩
  refine WH.one (i := 1) zk (WHo.so rfl (SO.news (Enters.func CaF.h rfl) (fun w1 hI => copiedEnt_g l a _ c D hS (by omega) w1 w hI.keep.size hI.imm)) rfl ?_)
  rintro _ _ _ ⟨hp6, hX6, ⟨rfl, o, rfl, ho, rfl⟩, rfl⟩
  refine ⟨(fun _ hI => Inv.left (l1 := [_]) hI.tail), ?_⟩
  refine WH.one (i := 4) zk (WHo.so rfl (SO.appendOwW (W := w) (Nat.le_refl _) (o := o) (len := l.length) (n := 1) (xs := (l.flatMap entC)) (size := 3) [_] [_] [] rfl rfl Tryz.underlying32 Tryz.sizeOf46 Tryz.typeInfo46 Tryz.zeroValue46 rfl rfl rfl rfl ⟨rfl, .inr ⟨_, _, _, rfl, RdN.own (k := 0) (n := 3) rfl rfl⟩⟩ (oneB_spec rfl) ho (flat_len entC_len l) (by omega) (by show (2 * (_ + _) + 1000) * 24 ≤ 2 ^ 48; omega) (by omega)) rfl ?_)
  rintro _ _ _ ⟨u1, hu1, rfl, rfl, rfl⟩
  refine ⟨(fun _ hI => Inv.left (l1 := [_]) hI), ?_⟩
  refine WH.know 9 (.slice (owAt (some u1)) (l ++ [x]).length (owCp (some u1) (l ++ [x]).length)) rfl (by rw [List.length_append]; rfl) ?_
  refine WH.freezeOw (f := entC) (m := 3) entC_len [_] [] (some u1) 46 (l ++ [x]) rfl (by rw [List.length_append]; exact hu1) (by rw [List.flatMap_append]; rfl) (fun D2 hX2 hS2 => ?_)
  refine g [[1005]] ?_
  refine WH.nil zk (g [[2]] ?_)
  refine WP.ret1 rfl rfl rfl (RV.tmp rfl) (fun w1 hI => ⟨_, D2, rfl, hI.keep, hI.imm, hX2, _, _, rfl, hS2, by rw [List.length_append]; exact hu1.2.1⟩)
end Go.Proofs.YtejgofaeafphjaaGreatDoor
namespace Go.Proofs.YtejgofaeafphjaaGreatDoor
open Go.W Go.Ti
theorem SA24 : StructAt Tryz.prog 24 [.int .i64 0, .slice none 0 0] [(0, 1), (1, 1)] := ⟨⟨_, Tryz.zeroValue24, rfl⟩, _, Tryz.underlying24, fun w => by simp [Tryz.sizeOf3, Tryz.sizeOf22]⟩
@[reducible, instance] def ISA24 := SaF.mk SA24
theorem SA26 : StructAt Tryz.prog 26 [.int .i64 0, .slice none 0 0, .int .i64 0, .int .i64 0, .int .i64 0] [(0, 2), (2, 1), (3, 1), (4, 1)] := ⟨⟨_, Tryz.zeroValue26, rfl⟩, _, Tryz.underlying26, fun w => by simp [Tryz.sizeOf3, Tryz.sizeOf24]⟩
@[reducible, instance] def ISA26 := SaF.mk SA26
theorem SA31 : StructAt Tryz.prog 31 [.slice none 0 0, .slice none 0 0, .slice none 0 0] [(0, 1), (1, 1), (2, 1)] := ⟨⟨_, Tryz.zeroValue31, rfl⟩, _, Tryz.underlying31, fun w => by simp [Tryz.sizeOf27, Tryz.sizeOf28, Tryz.sizeOf29]⟩
@[reducible, instance] def ISA31 := SaF.mk SA31
theorem wTide_g (x : Wick) (m s t l b : Sl) (xb : Nat) (w : World) (hx : w.heap[xb]? = some (womO x m s t l b)) : Gives Tryz.prog 68 [pt xb] w (.agg #[m.v, s.v, l.v]) := by
  unfold Gives
  refine en Tryz.func68 rfl Tryz.ntmps68 (Inv.start (Holds.one hx)) (g [[1],[1,0]] ?_)
  refine WL.so (SO.alloc ZvF.h rfl) rfl (zw fun b2 hb2 => ?_)
  refine g [[3],[0,2,0],[3015],[4]] ?_
  refine WQ.q rfl (Yd.qt (Yd.l1 rfl (Rd.imm (Imm.one_self _ _) rfl))) rfl (g [[4]] ?_)
  refine WQ.q rfl (Yd.qt (Yd.l1 rfl (Rd.imm (Imm.one_self _ _) rfl))) rfl (g [[4]] ?_)
  refine WQ.q rfl (Yd.qt (Yd.l1 rfl (Rd.imm (Imm.one_self _ _) rfl))) rfl (g [[6]] ?_)
  refine WP.ret1 rfl rfl rfl (RV.cellN AgF.h SzF.h rfl (vs := [_, _, _]) rfl (RdN.own (k := 0) (n := 3) rfl rfl)) (fun w hI => ⟨rfl, hI.keep⟩)
theorem wTks_g (x : Wick) (m s t l b : Sl) (xb : Nat) (w : World) (hx : w.heap[xb]? = some (womO x m s t l b)) : Gives Tryz.prog 148 [pt xb] w (.agg #[it x.huts, t.v]) := by
  unfold Gives
  refine en Tryz.func148 rfl Tryz.ntmps148 (Inv.start (Holds.one hx)) (g [[1],[1,0]] ?_)
  refine WL.so (SO.alloc ZvF.h rfl) rfl (zw fun b2 hb2 => ?_)
  refine g [[3],[0,2,0],[3010],[4]] ?_
  refine WQ.q rfl (Yd.qt (Yd.l1 rfl (Rd.imm (Imm.one_self _ _) rfl))) rfl (g [[4]] ?_)
  refine WQ.q rfl (Yd.qt (Yd.l1 rfl (Rd.imm (Imm.one_self _ _) rfl))) rfl (g [[6]] ?_)
  refine WP.ret1 rfl rfl rfl (RV.cellN AgF.h SzF.h rfl (vs := [_, _]) rfl (RdN.own (k := 0) (n := 2) rfl rfl)) (fun w hI => ⟨rfl, hI.keep⟩)
theorem wTill_g (x : Wick) (m s t l b : Sl) (xb : Nat) (w : World) (hx : w.heap[xb]? = some (womO x m s t l b)) : Gives Tryz.prog 66 [pt xb] w (.agg #[it x.huts, t.v, it x.price, it x.fine, it x.wait]) := by
  unfold Gives
  refine en Tryz.func66 rfl Tryz.ntmps66 (Inv.start (Holds.one hx)) (g [[1],[1,0]] ?_)
  refine WL.so (SO.alloc ZvF.h rfl) rfl (zw fun b2 hb2 => ?_)
  refine g [[3],[0,2,0],[3017],[1]] ?_
  refine WQ.q rfl (Qt.callP CaF.h rfl (fun w hI => wTks_g x m s t l b xb _ (hI.imm _ _ (Imm.one_self _ _)))) rfl (g [[4]] ?_)
  refine WQ.q rfl (Yd.qt (Yd.l1 rfl (Rd.imm (Imm.one_self _ _) rfl))) rfl (g [[4]] ?_)
  refine WQ.q rfl (Yd.qt (Yd.l1 rfl (Rd.imm (Imm.one_self _ _) rfl))) rfl (g [[4]] ?_)
  refine WQ.q rfl (Yd.qt (Yd.l1 rfl (Rd.imm (Imm.one_self _ _) rfl))) rfl (g [[6]] ?_)
  refine WP.ret1 rfl rfl rfl (RV.cellN AgF.h SzF.h rfl (vs := [_, _, _, _, _]) rfl (RdN.own (k := 0) (n := 5) rfl rfl)) (fun w hI => ⟨rfl, hI.keep⟩)
theorem CountM_g (T : Tide) (a1 a2 a3 : Option Addr) (n1 n2 n3 c1 c2 c3 : Nat) (D : Imm) (w : World) (hR : TideR D T a1 n1 a2 n2 a3 n3) (hH : Holds D w) (hL : LibW D) : Makes Tryz.prog 149 [.agg #[.slice a1 n1 c1, .slice a2 n2 c2, .slice a3 n3 c3]] w D (fun v _ => ∃ n, v = .tuple #[it n, it (if tideB T then 0 else 1)]) := by
  cases hv : tideB T with
  | false => exact Count_1 T a1 a2 a3 n1 n2 n3 c1 c2 c3 D w hR hH hL hv
  | true => exact Count_3 T a1 a2 a3 n1 n2 n3 c1 c2 c3 D w hR hH hL hv
theorem wIsTide_g (xv : Value) (T : Tide) (a1 a2 a3 : Option Addr) (n1 n2 n3 c1 c2 c3 : Nat) (D : Imm) (w : World) (hR : TideR D T a1 n1 a2 n2 a3 n3) (hH : Holds D w) (hL : LibW D) : Gives Tryz.prog 67 [xv, .agg #[.slice a1 n1 c1, .slice a2 n2 c2, .slice a3 n3 c3]] w (.bool (tideB T)) := by
  unfold Gives
  obtain rfl := hR.mark.len'
  obtain rfl := hR.sand.len'
  obtain rfl := hR.look.len'
  obtain ⟨hl1, hl2, hl3⟩ := hR.len
  refine en Tryz.func67 rfl Tryz.ntmps67 (Inv.start hH) (g [[1],[1,1]] ?_)
  refine WL.so (SO.box rfl rfl) rfl (zw fun b3 hb3 => ?_)
  refine g [[4],[2,4,3]] ?_
  refine WL.so (SO.makes (Enters.func Tryz.call149 rfl) (fun w hI => CountM_g T a1 a2 a3 _ _ _ c1 c2 c3 D w hR hI.imm hL)) rfl ?_
  rintro _ D2 _ ⟨hX2, ⟨n, rfl⟩, rfl⟩
  refine g [[8],[7,6,4]] ?_
  refine WP.ret1 rfl rfl rfl (RV.tmp rfl) (fun w hI => ⟨ret_bool (by cases tideB T <;> rfl), hI.keep⟩)
end Go.Proofs.YtejgofaeafphjaaGreatDoor
namespace Go.Proofs.YtejgofaeafphjaaGreatDoor
open Go.W Go.Ti
theorem SA99 : StructAt Tryz.prog 99 [.int .i64 0, .int .i64 0, .int .i64 0, .int .i64 0, .slice none 0 0, .slice none 0 0, .slice none 0 0, .slice none 0 0, .slice none 0 0, .bool false] [(0, 6), (6, 3), (9, 1)] := ⟨⟨_, Tryz.zeroValue99, rfl⟩, _, Tryz.underlying99, fun w => by simp [Tryz.sizeOf4, Tryz.sizeOf49, Tryz.sizeOf57]⟩
@[reducible, instance] def ISA99 := SaF.mk SA99
def wickV (x : Wick) (m s : Sl) : Value := .agg #[it x.huts, it x.price, it x.fine, it x.wait, m.v, s.v]
theorem tak_zero (x : Wick) : (TakingsOut (tillW x day0)).2 = if tillB (tillW x day0) = true then 0 else 1 := by
  unfold TakingsOut
  cases tillB (tillW x day0) <;> rfl
theorem wickB_and (x : Wick) : wickB x = (tillB (tillW x day0) && tideB (tideW x day0)) := rfl
theorem tks_nilR (D : Imm) (x : Wick) : TksR D (tksW x day0) none 0 := ⟨SlL.nil _ _, Nat.zero_le _⟩
theorem New_g (x : Wick) (m s : Sl) (D : Imm) (w : World) (hW : WickR D x m s) (hH : Holds D w) (hL : LibW D) : News Tryz.prog 19 [wickV x m s] w D (fun v D' h' => (wickB x = true ∧ ∃ xb m' s', v = .tuple #[pt xb, it 0] ∧ h' = [(xb, womO x m' s' nilS nilS nilS)] ∧ WickR D' x m' s') ∨ (wickB x = false ∧ v = .tuple #[.pointer none, it 1])) := by
  unfold News
  have hlm : x.marks.length ≤ 1000 := by rw [← hW.mark.len']; exact hW.len.1
  have hls : x.sand.length ≤ 1000 := by rw [← hW.sand.len']; exact hW.len.2
  refine en Tryz.func19 rfl Tryz.ntmps19 (Inv.start hH) (g [[1],[1,0]] ?_)
  refine WL.so (SO.box rfl rfl) rfl (zw fun b1 hb1 => ?_)
  refine g [[5],[2,3,2,1]] ?_
  refine WL.so (SO.alloc ZvF.h rfl) rfl (zw fun b4 hb4 => ?_)
  refine g [[4],[0,4,3,2,1]] ?_
  refine WC.drawO [_] (pz [1,3,7,9,4,13,10,14,17,18]) zk zk zX (fun _ hI => hI.tail) (g [[4]] ?_)
  refine WA.so rfl (SO.makes (Enters.func Tryz.call63 rfl) (fun w2 hI => makes_of_news markC_len (copiedMark_g x.marks m.a m.n m.c _ hW.mark hW.len.1 w2 w2 (Nat.le_refl _) hI.imm))) rfl ?_
  rintro _ D2 _ ⟨hX2, ⟨a2, c2, rfl, hS2, hc2⟩, rfl⟩
  have hs3 := hW.sand.ext hX2
  refine ⟨fun _ hI => hI.tail.shrink hX2.old, ?_⟩
  refine g [[1]] ?_
  refine WA.so rfl (SO.makes (Enters.func Tryz.call64 rfl) (fun w2 hI => makes_of_news spanC_len (copiedSpan_g x.sand s.a s.n s.c _ hs3 hW.len.2 w2 w2 (Nat.le_refl _) hI.imm))) rfl ?_
  rintro _ D3 _ ⟨hX3, ⟨a3, c3, rfl, hS3, hc3⟩, rfl⟩
  replace hL := (hL.ext hX2).ext hX3
  replace hS2 := hS2.ext hX3
  have hwr : WickR D3 x ⟨a2, x.marks.length, c2⟩ ⟨a3, x.sand.length, c3⟩ := ⟨hS2, hS3, hlm, hls⟩
  refine ⟨fun _ hI => (hI.tail.shrink hX3.old).shrink hX2.old, ?_⟩
  refine WA.so rfl (SO.store 0 rfl SzF.h rfl rfl rfl rfl (zqb rfl) (oneB_spec rfl)) rfl ?_
  rintro _ _ _ ⟨rfl, rfl, rfl⟩
  refine ⟨fun _ hI => (hI.tail.shrink hX3.old).shrink hX2.old, ?_⟩
  refine g [[1]] ?_
  refine WA.so rfl (SO.store 0 rfl SzF.h rfl rfl rfl rfl (zqb rfl) (oneB_spec rfl)) rfl ?_
  rintro _ _ _ ⟨rfl, rfl, rfl⟩
  refine ⟨fun _ hI => (hI.tail.shrink hX3.old).shrink hX2.old, ?_⟩
  refine g [[3],[2,4,3,2]] ?_
  refine WL.yd (Yd.buildL SA99 [(0, .agg (List.toArray [it x.huts, it x.price, it x.fine, it x.wait, .slice a2 x.marks.length c2, .slice a3 x.sand.length c3]), [it x.huts, it x.price, it x.fine, it x.wait, .slice a2 x.marks.length c2, .slice a3 x.sand.length c3]), (2, .bool true, [.bool true])] (womC x ⟨a2, x.marks.length, c2⟩ ⟨a3, x.sand.length, c3⟩ nilS nilS nilS) rfl ⟨rfl, ⟨0, rfl, Nat.le_of_ble_eq_true rfl⟩, rfl, ⟨9, rfl, Nat.le_of_ble_eq_true rfl⟩, trivial⟩ rfl) rfl ?_
  refine WL.so (SO.box rfl rfl) rfl (zw fun b19 hb19 => ?_)
  refine g [[4],[2,5,3,2]] ?_
  refine WL.cl rfl (fun w hI => wTill_g x ⟨a2, x.marks.length, c2⟩ ⟨a3, x.sand.length, c3⟩ nilS nilS nilS b19 _ (hI.own _ _ (List.mem_of_getElem? (i := 0) rfl))) (WL.cl rfl (fun w hI => Takings_g (tillW x day0) none 0 0 _ _ (tks_nilR _ x) hI.imm) (g [[9],[4,7,5,3,2]] ?_))
  refine WL.part 28 rfl (fun g28 => ?_) (fun g28 => ?_)
  · try simp only [zq] at g28
    refine g [[10],[7,5,3,2]] ?_
    refine WP.ret2 rfl rfl rfl (RV.tmp rfl) (RV.tmp rfl) (fun w1 hI => ⟨_, D3, [], rfl, hX2.trans hX3 (Nat.le_refl _), hI.nil, .inr ⟨by rw [wickB_and]; have := tak_zero x; simp_all, rfl⟩⟩)
  try simp only [zq] at g28
  refine g [[2]] ?_
  refine WL.sog rfl (SO.callP CaF.h rfl (fun w hI => wTide_g x ⟨a2, x.marks.length, c2⟩ ⟨a3, x.sand.length, c3⟩ nilS nilS nilS b19 _ (hI.own _ _ (List.mem_of_getElem? (i := 0) rfl)))) rfl (zs ?_)
  refine WL.sog rfl (SO.callP CaF.h rfl (fun w hI => wIsTide_g _ (tideW x day0) a2 a3 none _ _ 0 c2 c3 0 _ _ (tideW_R hwr (DayR.nil _)) hI.imm hL)) rfl (zs (g [[4]] ?_))
  refine WC.cond rfl (fun c34 => ?_) (fun c34 => ?_)
  · try simp only [zq] at c34
    refine g [[1],[7,5,3,2]] ?_
    refine WP.ret2 rfl rfl rfl (RV.tmp rfl) (RV.tmp rfl) (fun w1 hI => ⟨_, D3, [], rfl, hX2.trans hX3 (Nat.le_refl _), hI.nil, .inr ⟨by rw [wickB_and]; have := tak_zero x; simp_all, rfl⟩⟩)
  try simp only [zq] at c34
  refine g [[3],[7,5,3,2]] ?_
  refine WP.ret2 rfl rfl rfl (RV.tmp rfl) (RV.tmp rfl) (fun w1 hI => ⟨_, D3, [_], rfl, hX2.trans hX3 (Nat.le_refl _), Inv.left (l1 := [_]) hI, .inl ⟨by rw [wickB_and]; have := tak_zero x; simp_all, b19, ⟨a2, x.marks.length, c2⟩, ⟨a3, x.sand.length, c3⟩, rfl, rfl, hwr⟩⟩)
end Go.Proofs.YtejgofaeafphjaaGreatDoor
namespace Go.Proofs.YtejgofaeafphjaaGreatDoor
open Go.W Go.Ti
theorem SA57 : StructAt Tryz.prog 57 [.slice none 0 0, .slice none 0 0, .slice none 0 0] [(0, 1), (1, 1), (2, 1)] := ⟨⟨_, Tryz.zeroValue57, rfl⟩, _, Tryz.underlying57, fun w => by simp [Tryz.sizeOf22, Tryz.sizeOf29, Tryz.sizeOf32]⟩
@[reducible, instance] def ISA57 := SaF.mk SA57
end Go.Proofs.YtejgofaeafphjaaGreatDoor
