import Derived.Test.YtidjdonppfegiaaXF
import Derived.Test.YtidjdonppfegiaaXB
set_option linter.unusedSimpArgs false
set_option linter.unusedVariables false
set_option linter.all false
namespace Go.Proofs.Ytidjdonppfegiaa
open Go.W Go.Dp

/-- of the first k bathers those of a set -/
def bTo (d : Dips) (s : Nat) : Nat → List Bather
  | 0 => []
  | k + 1 => if s / 2 ^ k % 2 = 1 then bTo d s k ++ [gt d.bathers k] else bTo d s k
def withB (d : Dips) (s : Nat) : Dips := ⟨d.hours, d.dippers, bTo d s d.bathers.length⟩
theorem bTo_len (d : Dips) (s : Nat) : ∀ k, (bTo d s k).length ≤ k := by
  intro k; induction k with
  | zero => simp [bTo]
  | succ k ih => simp only [bTo]; split
                 · rw [List.length_append, List.length_singleton]; omega
                 · omega
def owA (o : Option Ow) : Option Addr := match o with | none => none | some u => some ⟨u.b, 0, none⟩
def owC (o : Option Ow) (n : Nat) : Nat := match o with | none => 0 | some u => u.cap
def owN (o : Option Ow) (n : Nat) : Nat := match o with | none => 0 | some _ => n
theorem owV_eq (o : Option Ow) (n : Nat) : owV o n = .slice (owA o) (owN o n) (owC o n) := by cases o <;> rfl
theorem batherC_len (x : Bather) : (batherC x).length = 3 := rfl
def bCs (d : Dips) (s k : Nat) : List Value := (bTo d s k).flatMap batherC
theorem bCs_len (d : Dips) (s k : Nat) : (bCs d s k).length = (bTo d s k).length * 3 := flat_len batherC_len _
theorem dips_own {D : Imm} {d : Dips} {s : Nat} {a1 : Option Addr} {n1 b : Nat} {t : TypeId} {fz : Nat × Nat} {rest : List Value} (h1 : SlL D 3 (d.dippers.map dipperC) a1 n1) (hl : n1 ≤ 1000) (h5 : d.bathers.length ≤ 5) (hD : D b = some (.cells (List.toArray (bCs d s d.bathers.length ++ rest)) t fz)) :
    DipsR D (withB d s) a1 n1 (some ⟨b, 0, none⟩) (bTo d s d.bathers.length).length :=
  ⟨h1, SlL.ofBlock batherC_len hD, hl, by have := bTo_len d s d.bathers.length; omega⟩

set_option maxRecDepth 100000 in
set_option maxHeartbeats 1000000 in
theorem with_g (d : Dips) (a1 : Option Addr) (n1 c1 : Nat) (a2 : Option Addr) (n2 c2 : Nat) (D : Imm) (w : World) (hR : DipsR D d a1 n1 a2 n2) (hH : Holds D w) (s : Nat) (tt : TypeId) (tv tr : Value) (htr : tr = .iface tt tv) (h5 : d.bathers.length ≤ 5) : Makes Try.prog 80 [.agg #[it d.hours, .slice a1 n1 c1, .slice a2 n2 c2, tr], ut s] w D (fun v D' => ∃ b a n c, v = pt b ∧ BeachAt D' b d (.slice a1 n1 c1) (.slice a n c) tr ∧ DipsR D' (withB d s) a1 n1 a n) := by
  unfold Makes
  obtain rfl := hR.dip.len'
  obtain rfl := hR.bath.len'
  have hl1 := hR.len1
  have hl2 := hR.len2
  refine enter Try.func80 rfl 30 Try.ntmps80 (Nat.le_of_ble_eq_true rfl) (Inv.start hH) ?_
  refine WC.seq ?_
  refine WC.ofFr [(0, _), (1, _)] ⟨rfl, rfl, trivial⟩ ?_
  refine WC.region ?_
  refine WL.so (SO.box rfl rfl) rfl ?_
  rintro _ _ _ ⟨b2, hb2, rfl, rfl, rfl⟩ -- NEW
  refine WL.yd (Yd.assign rfl) rfl ?_
  refine WL.nil ?_
  refine WP.thenC ?_
  refine WC.seq ?_
  refine WC.ofFr [(4, _), (2, _), (1, _)] ⟨rfl, rfl, rfl, trivial⟩ ?_
  refine WC.region ?_
  refine WL.yd (Yd.assign rfl) rfl ?_
  refine WL.nil ?_
  refine WP.thenC ?_
  refine WC.seq ?_
  refine WC.seq ?_
  refine WC.ofFr [(5, _), (4, _), (2, _), (1, _)] ⟨rfl, rfl, rfl, rfl, trivial⟩ ?_
  refine WC.region ?_
  refine WL.yd (Yd.fieldAddr FA89_0 rfl) rfl ?_
  refine WL.yd (Yd.fieldAddr FA25_2 rfl) rfl ?_
  refine WL.yd (Yd.load1 Try.isAgg23 rfl (by first | exact Rd.own (k := 0) rfl rfl)) rfl ?_
  refine WL.yd (Yd.lenS rfl Try.underlying23 rfl) rfl ?_
  refine WL.yd (Yd.move rfl) rfl ?_
  refine WL.nil ?_
  refine WP.thenC ?_
  refine WC.block ?_
  refine WC.loop (fun y : Nat × Option Ow => [(1, ut s), (2, pt b2), (5, owV y.2 (bTo d s y.1).length), (10, .slice a2 d.bathers.length c2), (11, nt d.bathers.length), (12, nt y.1)]) (fun y => (b2, .cells (List.toArray [it d.hours, .slice a1 d.dippers.length c1, .slice a2 d.bathers.length c2, tr]) 89 (0, 0)) :: owH y.2 55 (bCs d s y.1) []) (fun _ => D) (fun y => y.1 ≤ d.bathers.length ∧ owP w y.2 (bTo d s y.1).length 3) (fun y => d.bathers.length - y.1) (0, none) ⟨by omega, rfl⟩ (fun a w h => at_fr h ⟨rfl, rfl, rfl, rfl, rfl, rfl, trivial⟩) ?_
  rintro ⟨k, o⟩ ⟨hk, ho⟩
  dsimp only at hk ho
  refine WC.seq ?_
  refine WC.ofFr [(1, _), (2, _), (5, _), (10, _), (11, _), (12, _)] ⟨rfl, rfl, rfl, rfl, rfl, rfl, trivial⟩ ?_
  refine WC.region ?_
  refine WL.yd (Yd.lss rfl rfl) rfl ?_
  refine WL.nil ?_
  refine WP.thenC ?_
  refine WC.seq ?_
  refine WC.cond rfl (fun c13 => ?_) (fun c13 => ?_)
  · try simp only [zq1, zq2, zq3, zq4, zq5, zq6, zq7, zq8] at c13
    have hbl := bTo_len d s k
    refine WC.skip ?_
    refine WP.thenC ?_
    refine WC.seq ?_
    refine WC.block ?_
    refine WC.seq ?_
    refine WC.ofFr [(1, _), (2, _), (5, _), (10, _), (11, _), (12, _)] ⟨rfl, rfl, rfl, rfl, rfl, rfl, trivial⟩ ?_
    refine WC.region ?_
    refine WL.yd (Yd.move rfl) rfl ?_
    refine WL.yd (Yd.indexS Try.underlying23 Try.sizeOf55 rfl rfl (by omega) (by omega) (by first | exact hR.bath.addr k (by omega))) rfl ?_
    refine WL.yd (Yd.loadN Try.isAgg55 Try.sizeOf55 rfl (vs := [_, _, _]) rfl (by first | exact RdN.own (k := 0) (n := 3) rfl rfl | exact (hR.bath.at k (by omega)).rdn 0 3 rfl)) rfl ?_
    refine WL.so (SO.alloc Try.zeroValue55 rfl) rfl ?_
    rintro _ _ _ ⟨b7, hb7, rfl, rfl, rfl⟩ -- NEW
    refine WL.yd (Yd.assign rfl) rfl ?_
    refine WL.so (SO.store 0 rfl Try.sizeOf55 rfl rfl rfl rfl (Nat.le_of_ble_eq_true rfl) (oneB_spec rfl)) rfl ?_
    rintro _ _ _ ⟨rfl, rfl, rfl⟩
    refine WL.nil ?_
    refine WP.thenC ?_
    refine WC.seq ?_
    refine WC.ofFr [(6, _), (7, _), (1, _), (2, _), (5, _), (10, _), (11, _), (12, _)] ⟨rfl, rfl, rfl, rfl, rfl, rfl, rfl, rfl, trivial⟩ ?_
    refine WC.region ?_
    refine WL.yd (Yd.move rfl) rfl ?_
    refine WL.yd (Yd.move rfl) rfl ?_
    refine WL.yd (Yd.shrUN rfl rfl (by omega)) rfl ?_
    refine WL.yd (Yd.andU1 rfl rfl) rfl ?_
    refine WL.yd (Yd.eql rfl rfl) rfl ?_
    refine WL.nil ?_
    refine WP.thenC ?_
    refine WC.cond rfl (fun c21 => ?_) (fun c21 => ?_)
    · try simp only [zq1, zq2, zq3, zq4, zq5, zq6, zq7, zq8] at c21
      have hbit : s / 2 ^ k % 2 = 1 := by omega
      refine WC.ofFr [(7, _), (1, _), (2, _), (5, _), (10, _), (11, _), (12, _)] ⟨rfl, rfl, rfl, rfl, rfl, rfl, rfl, trivial⟩ ?_
      refine WC.region ?_
      refine WL.yd (Yd.move rfl) rfl ?_
      refine WL.yd (Yd.loadN Try.isAgg55 Try.sizeOf55 rfl (vs := [_, _, _]) rfl (by first | exact RdN.own (k := 0) (n := 3) rfl rfl | exact RdN.own (k := 1) (n := 3) rfl rfl | exact (hR.bath.at k (by omega)).rdn 0 3 rfl)) rfl ?_
      refine WL.so (SO.buildSlice Try.underlying23 Try.sizeOf55 Try.zeroValue55 rfl rfl rfl rfl (cs := [_, _, _]) rfl) rfl ?_
      rintro _ _ _ ⟨b24, hb24, rfl, rfl, rfl⟩ -- NEW
      refine WL.so (SO.appendOw (o := o) (len := (bTo d s k).length) (n := 1) (xs := bCs d s k) (size := 3) [_] [_, _] [] rfl rfl Try.underlying23 Try.sizeOf55 Try.typeInfo55 Try.zeroValue55 rfl rfl rfl rfl ⟨rfl, .inr ⟨_, _, _, rfl, RdN.own (k := 0) (n := 3) rfl rfl⟩⟩ (oneB_spec rfl) ho (bCs_len d s k) (by omega) (by show (2 * (_ + _) + 1000) * 24 ≤ 2 ^ 48; omega) (by omega)) rfl ?_
      rintro _ _ _ ⟨u1, hu1, rfl, rfl, rfl⟩
      refine WL.yd (Yd.assign rfl) rfl ?_
      refine WL.nil ?_
      refine WP.blkNormal ?_
      refine WP.thenC ?_
      refine WC.ofFr [(5, _), (1, _), (2, _), (10, _), (11, _), (12, _)] ⟨rfl, rfl, rfl, rfl, rfl, rfl, trivial⟩ ?_
      refine WC.region ?_
      refine WL.yd (Yd.add rfl rfl (wr64 ⟨by omega, by omega⟩)) rfl ?_
      refine WL.yd (Yd.move rfl) rfl ?_
      refine WL.nil ?_
      first
        | (have hp1 : bTo d s (k + 1) = bTo d s k ++ [gt d.bathers k] := if_pos hbit
           have hp2 : (bTo d s (k + 1)).length = (bTo d s k).length + 1 := by rw [hp1, List.length_append, List.length_singleton]
           have hp3 : bCs d s (k + 1) = bCs d s k ++ batherC (gt d.bathers k) := by rw [bCs, hp1, List.flatMap_append, List.flatMap_singleton]; rfl
           refine WP.again (⟨k + 1, some u1⟩ : Nat × Option Ow) ⟨by simp only; omega, by simp only; rw [hp2]; exact hu1⟩ (by simp only; omega) (fun aa ww h => ?_)
           show At _ [(1, ut s), (2, pt b2), (5, owV (some u1) (bTo d s (k + 1)).length), (10, .slice a2 d.bathers.length c2), (11, nt d.bathers.length), (12, nt (k + 1))] D ((b2, .cells (List.toArray [it d.hours, .slice a1 d.dippers.length c1, .slice a2 d.bathers.length c2, tr]) 89 (0, 0)) :: owH (some u1) 55 (bCs d s (k + 1)) []) aa ww
           rw [hp2, hp3]
           exact at_less h ⟨rfl, rfl, rfl, rfl, rfl, rfl, trivial⟩ (fun _ h => List.mem_cons_of_mem _ h) (fun h => (List.nodup_cons.1 h).2))
        | (have hp1 : bTo d s (k + 1) = bTo d s k := if_neg hbit
           refine WP.again (⟨k + 1, o⟩ : Nat × Option Ow) ⟨by simp only; omega, by simp only; rw [hp1]; exact ho⟩ (by simp only; omega) (fun aa ww h => ?_)
           show At _ [(1, ut s), (2, pt b2), (5, owV o (bTo d s (k + 1)).length), (10, .slice a2 d.bathers.length c2), (11, nt d.bathers.length), (12, nt (k + 1))] D ((b2, .cells (List.toArray [it d.hours, .slice a1 d.dippers.length c1, .slice a2 d.bathers.length c2, tr]) 89 (0, 0)) :: owH o 55 (bCs d s (k + 1)) []) aa ww
           rw [bCs, hp1]
           exact at_less h ⟨rfl, rfl, rfl, rfl, rfl, rfl, trivial⟩ (fun _ h => List.mem_cons_of_mem _ h) (fun h => (List.nodup_cons.1 h).2))
    · try simp only [zq1, zq2, zq3, zq4, zq5, zq6, zq7, zq8] at c21
      have hbit : ¬ s / 2 ^ k % 2 = 1 := by omega
      refine WC.skip ?_
      refine WP.blkNormal ?_
      refine WP.thenC ?_
      refine WC.ofFr [(1, _), (2, _), (5, _), (10, _), (11, _), (12, _)] ⟨rfl, rfl, rfl, rfl, rfl, rfl, trivial⟩ ?_
      refine WC.region ?_
      refine WL.yd (Yd.add rfl rfl (wr64 ⟨by omega, by omega⟩)) rfl ?_
      refine WL.yd (Yd.move rfl) rfl ?_
      refine WL.nil ?_
      first
        | (have hp1 : bTo d s (k + 1) = bTo d s k ++ [gt d.bathers k] := if_pos hbit
           have hp2 : (bTo d s (k + 1)).length = (bTo d s k).length + 1 := by rw [hp1, List.length_append, List.length_singleton]
           have hp3 : bCs d s (k + 1) = bCs d s k ++ batherC (gt d.bathers k) := by rw [bCs, hp1, List.flatMap_append, List.flatMap_singleton]; rfl
           refine WP.again (⟨k + 1, some u1⟩ : Nat × Option Ow) ⟨by simp only; omega, by simp only; rw [hp2]; exact hu1⟩ (by simp only; omega) (fun aa ww h => ?_)
           show At _ [(1, ut s), (2, pt b2), (5, owV (some u1) (bTo d s (k + 1)).length), (10, .slice a2 d.bathers.length c2), (11, nt d.bathers.length), (12, nt (k + 1))] D ((b2, .cells (List.toArray [it d.hours, .slice a1 d.dippers.length c1, .slice a2 d.bathers.length c2, tr]) 89 (0, 0)) :: owH (some u1) 55 (bCs d s (k + 1)) []) aa ww
           rw [hp2, hp3]
           exact at_less h ⟨rfl, rfl, rfl, rfl, rfl, rfl, trivial⟩ (fun _ h => List.mem_cons_of_mem _ h) (fun h => (List.nodup_cons.1 h).2))
        | (have hp1 : bTo d s (k + 1) = bTo d s k := if_neg hbit
           refine WP.again (⟨k + 1, o⟩ : Nat × Option Ow) ⟨by simp only; omega, by simp only; rw [hp1]; exact ho⟩ (by simp only; omega) (fun aa ww h => ?_)
           show At _ [(1, ut s), (2, pt b2), (5, owV o (bTo d s (k + 1)).length), (10, .slice a2 d.bathers.length c2), (11, nt d.bathers.length), (12, nt (k + 1))] D ((b2, .cells (List.toArray [it d.hours, .slice a1 d.dippers.length c1, .slice a2 d.bathers.length c2, tr]) 89 (0, 0)) :: owH o 55 (bCs d s (k + 1)) []) aa ww
           rw [bCs, hp1]
           exact at_less h ⟨rfl, rfl, rfl, rfl, rfl, rfl, trivial⟩ (fun _ h => List.mem_cons_of_mem _ h) (fun h => (List.nodup_cons.1 h).2))
  · try simp only [zq1, zq2, zq3, zq4, zq5, zq6, zq7, zq8] at c13
    refine WC.exit ?_
    refine WP.thenExit ?_
    refine WP.thenExit ?_
    refine WP.blkHit ?_
    refine WP.thenC ?_
    refine WC.seq ?_
    refine WC.ofFr [(2, _), (5, _)] ⟨rfl, rfl, trivial⟩ ?_
    refine WC.region ?_
    obtain rfl : k = d.bathers.length := by omega
    refine WL.know 5 (.slice (owA o) (owN o (bTo d s d.bathers.length).length) (owC o (bTo d s d.bathers.length).length)) rfl (owV_eq o _) ?_
    refine WL.yd (Yd.move rfl) rfl ?_
    refine WL.yd (Yd.fieldAddr FA89_0 rfl) rfl ?_
    refine WL.yd (Yd.fieldAddr FA25_2 rfl) rfl ?_
    refine WL.so (SO.store 0 rfl Try.sizeOf23 rfl rfl rfl rfl (Nat.le_of_ble_eq_true rfl) (oneB_spec rfl)) rfl ?_
    rintro _ _ _ ⟨rfl, rfl, rfl⟩
    refine WL.nil ?_
    refine WP.thenC ?_
    refine WC.seq ?_
    refine WC.ofFr [(2, _)] ⟨rfl, trivial⟩ ?_
    refine WC.region ?_
    refine WL.yd (Yd.assign rfl) rfl ?_
    refine WL.nil ?_
    refine WP.thenC ?_
    refine WC.ret ?_
    refine WP.ret1 rfl rfl Try.results80 (RV.tmp rfl) (fun w1 hI => ?_)
    have hf := hI.freeze
    have hn2 : D b2 = none := hI.apart _ _ (List.mem_of_getElem? (i := 0) rfl)
    have hX2 := fun o => (DExt.refl w D).add (o := o) hn2 hb2
    cases o with
    | none =>
      have h0 : (bTo d s d.bathers.length).length = 0 := ho
      refine ⟨_, _, rfl, hI.keep, hf.imm, hX2 _, b2, none, 0, 0, rfl, Imm.add_self _ _ _, ⟨hR.dip.ext (hX2 _), ⟨?_, fun i r hr => ?_⟩, hR.len1, by omega⟩⟩
      · simp [withB, h0]
      · have : (withB d s).bathers = [] := List.length_eq_zero_iff.1 h0
        rw [this] at hr; simp at hr
    | some u =>
      have hf2 := hf.freeze
      have hnu := hf.apart _ _ (List.mem_of_getElem? (i := 0) rfl)
      have hXu := fun o => (DExt.refl w (D.add b2 _)).add (o := o) hnu ho.1
      have hX := fun o => (hX2 _).trans (hXu o) (Nat.le_refl _)
      exact ⟨_, _, rfl, hI.keep, hf2.imm, hX _, b2, some ⟨u.b, 0, none⟩, _, u.cap, rfl, (hXu _).old _ _ (Imm.add_self _ _ _), dips_own (hR.dip.ext (hX _)) hR.len1 h5 (Imm.add_self _ _ _)⟩

end Go.Proofs.Ytidjdonppfegiaa
namespace Go.Proofs.Ytidjdonppfegiaa
open Go.W Go.Dp
theorem FA106_0 : FieldAt Try.prog 106 0 0 := FieldAt.mk (t := 104) (off := 0) Try.underlying106 rfl Try.sizeOf104 (by decide)
def fstP (l : List Nat) (p : Nat → Bool) : Nat × Bool := match l.find? p with | some x => (x, true) | none => (0, false)
theorem fstP_hit {l : List Nat} {p : Nat → Bool} {k : Nat} (hk : k < l.length) (hb : ∀ i, i < k → p (gt l i) = false) (h : p (gt l k) = true) : fstP l p = (gt l k, true) := by
  have : l.find? p = some (gt l k) := by
    rw [List.find?_eq_some_iff_getElem]
    refine ⟨h, k, hk, ?_, fun j hj => ?_⟩
    · simp [gt, List.getD, hk]
    · have := hb j hj
      have hjl : j < l.length := by omega
      simp only [gt, List.getD, List.getElem?_eq_getElem hjl, Option.getD_some] at this
      simp [this]
  simp [fstP, this]
theorem fstP_no {l : List Nat} {p : Nat → Bool} (hb : ∀ i, i < l.length → p (gt l i) = false) : fstP l p = (0, false) := by
  have : l.find? p = none := by
    rw [List.find?_eq_none]
    intro x hx
    obtain ⟨i, hi, rfl⟩ := List.getElem_of_mem hx
    have := hb i hi
    simp only [gt, List.getD, List.getElem?_eq_getElem hi, Option.getD_some] at this
    simp [this]
  simp [fstP, this]

set_option maxRecDepth 100000 in
set_option maxHeartbeats 1000000 in
theorem first_g (l : List Nat) (a : Option Addr) (n c : Nat) (D : Imm) (w : World) (hS : SlL D 1 (l.map fun x => [ut x]) a n) (hn : n ≤ 1000) (hH : Holds D w) (fi : FuncId) (cap : List Value) (hfi : ∀ args w, (callFunc fi args).run Try.prog w = .ok (.enter fi args) w) (p : Nat → Bool) (hF : ∀ w', Holds D w' → ∀ i, i < l.length → Gives Try.prog fi (ut (gt l i) :: cap) w' (.bool (p (gt l i)))) : Gives Try.prog 74 [.slice a n c, .agg #[.func (.func fi) #[] cap.toArray]] w (.tuple #[ut (fstP l p).1, .bool (fstP l p).2]) := by
  unfold Gives
  obtain rfl : n = l.length := by have := hS.len; simpa using this
  refine enter Try.func74 rfl 21 Try.ntmps74 (Nat.le_of_ble_eq_true rfl) (Inv.start hH) ?_
  refine WC.seq ?_
  refine WC.ofFr [(0, _), (1, _)] ⟨rfl, rfl, trivial⟩ ?_
  refine WC.region ?_
  refine WL.so (SO.box rfl rfl) rfl ?_
  rintro _ _ _ ⟨b3, hb3, rfl, rfl, rfl⟩ -- NEW
  refine WL.yd (Yd.assign rfl) rfl ?_
  refine WL.yd (Yd.assign rfl) rfl ?_
  refine WL.nil ?_
  refine WP.thenC ?_
  refine WC.seq ?_
  refine WC.seq ?_
  refine WC.ofFr [(5, _), (4, _), (3, _), (0, _)] ⟨rfl, rfl, rfl, rfl, trivial⟩ ?_
  refine WC.region ?_
  refine WL.yd (Yd.move rfl) rfl ?_
  refine WL.yd (Yd.lenS rfl Try.underlying101 rfl) rfl ?_
  refine WL.yd (Yd.move rfl) rfl ?_
  refine WL.nil ?_
  refine WP.thenC ?_
  refine WC.block ?_
  refine WC.loopF (fun k : Nat => [(3, pt b3), (4, .int .u64 0), (8, .slice a l.length c), (9, nt l.length), (10, nt k)]) (fun k => k ≤ l.length ∧ ∀ i, i < k → p (gt l i) = false) (fun k => l.length - k) 0 ⟨by omega, fun i hi => absurd hi (by omega)⟩ (by exact ⟨rfl, rfl, rfl, rfl, rfl, trivial⟩) ?_
  rintro k ⟨hk, hb⟩
  refine WC.seq ?_
  refine WC.ofFr [(3, _), (4, _), (8, _), (9, _), (10, _)] ⟨rfl, rfl, rfl, rfl, rfl, trivial⟩ ?_
  refine WC.region ?_
  refine WL.yd (Yd.lss rfl rfl) rfl ?_
  refine WL.nil ?_
  refine WP.thenC ?_
  refine WC.seq ?_
  refine WC.cond rfl (fun c11 => ?_) (fun c11 => ?_)
  · try simp only [zq1, zq2, zq3, zq4, zq5, zq6, zq7, zq8] at c11
    refine WC.skip ?_
    refine WP.thenC ?_
    refine WC.seq ?_
    refine WC.block ?_
    refine WC.seq ?_
    refine WC.ofFr [(3, _), (4, _), (8, _), (9, _), (10, _)] ⟨rfl, rfl, rfl, rfl, rfl, trivial⟩ ?_
    refine WC.region ?_
    refine WL.yd (Yd.indexS Try.underlying101 Try.sizeOf98 rfl rfl (by omega) (by omega) (by first | exact hS.addr k (by omega))) rfl ?_
    refine WL.yd (Yd.load1 Try.isAgg98 rfl (by first | exact Rd.own (k := 0) rfl rfl | exact ((hS.at k (by omega)).rd 0 rfl))) rfl ?_
    refine WL.yd (Yd.assign rfl) rfl ?_
    refine WL.nil ?_
    refine WP.thenC ?_
    refine WC.seq ?_
    refine WC.ofFr [(7, _), (3, _), (4, _), (8, _), (9, _), (10, _)] ⟨rfl, rfl, rfl, rfl, rfl, rfl, trivial⟩ ?_
    refine WC.region ?_
    refine WL.yd (Yd.fieldAddr FA106_0 rfl) rfl ?_
    refine WL.yd (Yd.load1 Try.isAgg104 rfl (by first | exact Rd.own (k := 0) rfl rfl | exact ((hS.at k (by omega)).rd 0 rfl))) rfl ?_
    refine WL.yd (Yd.move rfl) rfl ?_
    refine WL.so (SO.call (Enters.val hfi rfl rfl) (fun w hI => hF _ hI.imm k (by omega))) rfl ?_
    rintro _ _ _ ⟨rfl, rfl, rfl⟩
    refine WL.nil ?_
    refine WP.thenC ?_
    refine WC.cond rfl (fun c17 => ?_) (fun c17 => ?_)
    · try simp only [zq1, zq2, zq3, zq4, zq5, zq6, zq7, zq8] at c17
      refine WC.seq ?_
      refine WC.ofFr [(7, _), (3, _), (4, _), (8, _), (9, _), (10, _)] ⟨rfl, rfl, rfl, rfl, rfl, rfl, trivial⟩ ?_
      refine WC.region ?_
      refine WL.yd (Yd.move rfl) rfl ?_
      refine WL.yd (Yd.assign rfl) rfl ?_
      refine WL.yd (Yd.assign rfl) rfl ?_
      refine WL.nil ?_
      refine WP.thenC ?_
      refine WC.ret ?_
      refine WP.blkRet ?_
      refine WP.thenRet ?_
      refine WP.thenRet ?_
      refine WP.blkRet ?_
      refine WP.thenRet ?_
      refine WP.ret2 rfl rfl Try.results74 (RV.tmp rfl) (RV.tmp rfl) (fun w hI => ⟨by rw [fstP_hit (by omega) hb c17], hI.keep⟩)
    · try simp only [zq1, zq2, zq3, zq4, zq5, zq6, zq7, zq8] at c17
      refine WC.skip ?_
      refine WP.blkNormal ?_
      refine WP.thenC ?_
      refine WC.ofFr [(3, _), (4, _), (8, _), (9, _), (10, _)] ⟨rfl, rfl, rfl, rfl, rfl, trivial⟩ ?_
      refine WC.region ?_
      refine WL.yd (Yd.add rfl rfl (wr64 ⟨by omega, by omega⟩)) rfl ?_
      refine WL.yd (Yd.move rfl) rfl ?_
      refine WL.nil ?_
      exact WP.againF (k + 1) ⟨by omega, ext_round hb c17⟩ (by omega) ⟨rfl, rfl, rfl, rfl, rfl, trivial⟩ (fun _ h => h) (fun h => h)
  · try simp only [zq1, zq2, zq3, zq4, zq5, zq6, zq7, zq8] at c11
    refine WC.exit ?_
    refine WP.thenExit ?_
    refine WP.thenExit ?_
    refine WP.blkHit ?_
    refine WP.thenC ?_
    refine WC.seq ?_
    refine WC.ofFr [(4, _)] ⟨rfl, trivial⟩ ?_
    refine WC.region ?_
    refine WL.yd (Yd.move rfl) rfl ?_
    refine WL.yd (Yd.assign rfl) rfl ?_
    refine WL.yd (Yd.assign rfl) rfl ?_
    refine WL.nil ?_
    refine WP.thenC ?_
    refine WC.ret ?_
    refine WP.ret2 rfl rfl Try.results74 (RV.tmp rfl) (RV.tmp rfl) (fun w hI => ⟨by rw [fstP_no (fun i hi => hb i (by omega))]; rfl, hI.keep⟩)

theorem mem_bTo {d : Dips} {s : Nat} {x : Bather} : ∀ k, k ≤ d.bathers.length → x ∈ bTo d s k → ∃ i, i < d.bathers.length ∧ x = gt d.bathers i := by
  intro k
  induction k with
  | zero => intro _ h; cases h
  | succ k ih =>
    intro hk h
    simp only [bTo] at h
    split at h
    · rcases List.mem_append.1 h with h1 | h1
      · exact ih (by omega) h1
      · exact ⟨k, by omega, by simpa using h1⟩
    · exact ih (by omega) h
theorem withB_ok {d : Dips} (hv : dipsB d = true) (s : Nat) : dipsB (withB d s) = true := by
  obtain ⟨h1, h2, h3, h4, h5⟩ := (dipsB_iff d).1 hv
  refine (dipsB_iff _).2 ⟨h1, h2, ?_, h4, fun i hi => ?_⟩
  · have := bTo_len d s d.bathers.length
    simp only [withB]; omega
  · obtain ⟨j, hj, e⟩ := mem_bTo (s := s) d.bathers.length (Nat.le_refl _) (gt_mem hi)
    have := h5 j hj
    rw [← e] at this
    exact this

set_option maxRecDepth 100000 in
set_option maxHeartbeats 1000000 in
theorem why2_g (d : Dips) (a1 : Option Addr) (n1 c1 : Nat) (a2 : Option Addr) (n2 c2 : Nat) (q bx s : Nat) (D : Imm) (w : World) (hB : BeachAt D q d (.slice a1 n1 c1) (.slice a2 n2 c2) worstV) (hX : D bx = some (.cells (List.toArray [pt q]) 72 (0, 0))) (hR : DipsR D d a1 n1 a2 n2) (hH : Holds D w) (hv : dipsB d = true) : Gives Try.prog 83 [ut s, pt bx] w (.bool (!(planP (withB d s) false).isSome)) := by
  unfold Gives
  refine enter Try.func83 rfl 11 Try.ntmps83 (Nat.le_of_ble_eq_true rfl) (Inv.start hH) ?_
  refine WC.seq ?_
  refine WC.ofFr [(0, _), (1, _)] ⟨rfl, rfl, trivial⟩ ?_
  refine WC.region ?_
  refine WL.yd (Yd.assign rfl) rfl ?_
  refine WL.nil ?_
  refine WP.thenC ?_
  refine WC.seq ?_
  refine WC.ofFr [(3, _), (0, _), (1, _)] ⟨rfl, rfl, rfl, trivial⟩ ?_
  refine WC.region ?_
  refine WL.yd (Yd.load1 Try.isAgg72 rfl (by first | exact (Rd.imm hX rfl))) rfl ?_
  refine WL.yd (Yd.nilCheck rfl) rfl ?_
  refine WL.yd (Yd.loadN Try.isAgg89 Try.sizeOf89 rfl (vs := [_, _, _, _]) rfl (by first | exact (RdN.imm (n := 4) hB rfl))) rfl ?_
  refine WL.yd (Yd.move rfl) rfl ?_
  refine WL.so (SO.makes (Enters.func Try.call80 rfl) (fun w hI => with_g d a1 _ c1 a2 _ c2 D w hR hI.imm s _ _ _ rfl (dips_num hv).2.2.1)) rfl ?_
  rintro _ D2 _ ⟨hX2, ⟨b2, a2', n2', c2', rfl, hB2, hR2⟩, rfl⟩
  refine WL.so (SO.callP Try.call71 rfl (fun w hI => can_g (withB d s) false a1 _ c1 a2' n2' c2' b2 D2 w hB2 hR2 hI.imm (withB_ok hv s))) rfl ?_
  rintro _ _ _ ⟨rfl, rfl, rfl⟩
  refine WL.yd (Yd.not rfl) rfl ?_
  refine WL.yd (Yd.assign rfl) rfl ?_
  refine WL.nil ?_
  refine WP.thenC ?_
  refine WC.ret ?_
  refine WP.ret1 rfl rfl Try.results83 (RV.tmp rfl) (fun w hI => ⟨rfl, hI.keep⟩)

end Go.Proofs.Ytidjdonppfegiaa
namespace Go.Proofs.Ytidjdonppfegiaa
open Go.W Go.Dp
theorem SA106 : StructAt Try.prog 106 [.nilFunc] [(0, 1)] := ⟨⟨_, Try.zeroValue106, rfl⟩, _, Try.underlying106, fun w => by simp [Try.sizeOf104]⟩
theorem setsL_lt (k : Nat) (hk : k ≤ 5) : ∀ x ∈ setsL k, x < 32 := by
  rcases (show k = 0 ∨ k = 1 ∨ k = 2 ∨ k = 3 ∨ k = 4 ∨ k = 5 by omega) with rfl | rfl | rfl | rfl | rfl | rfl <;> decide
theorem fstP_lt (k : Nat) (hk : k ≤ 5) (p : Nat → Bool) : (fstP (setsL k) p).1 < 32 := by
  unfold fstP
  cases h : (setsL k).find? p with
  | none => simp
  | some x => exact setsL_lt k hk x (List.mem_of_find?_eq_some h)
def cantB (d : Dips) (s : Nat) : Bool := !(planP (withB d s) false).isSome
def WhyOut (d : Dips) : Int × Int := if dipsB d = false then (0, 1) else if (fstP (setsL d.bathers.length) (cantB d)).2 then ((fstP (setsL d.bathers.length) (cantB d)).1, 0) else (0, 4)

set_option maxRecDepth 100000 in
set_option maxHeartbeats 1000000 in
theorem Why_1 (d : Dips) (a1 : Option Addr) (n1 c1 : Nat) (a2 : Option Addr) (n2 c2 : Nat) (D : Imm) (w : World) (hR : DipsR D d a1 n1 a2 n2) (hH : Holds D w) (hv : dipsB d = false) : Gives Try.prog 31 [.agg #[it d.hours, .slice a1 n1 c1, .slice a2 n2 c2]] w (.tuple #[it (WhyOut d).1, it (WhyOut d).2]) := by
  unfold Gives
  obtain rfl := hR.dip.len'
  obtain rfl := hR.bath.len'
  have hl1 := hR.len1
  have hl2 := hR.len2
  refine enterD Try.func31 rfl 24 Try.ntmps31 (Nat.le_of_ble_eq_true rfl) (Inv.start hH) ?_
  refine WC.seq ?_
  refine WC.ofFr [(0, _)] ⟨rfl, trivial⟩ ?_
  refine WC.region ?_
  refine WL.so (SO.box rfl rfl) rfl ?_
  rintro _ _ _ ⟨b1, hb1, rfl, rfl, rfl⟩ -- NEW
  refine WL.yd (Yd.assign rfl) rfl ?_
  refine WL.so (SO.alloc Try.zeroValue29 rfl) rfl ?_
  rintro _ _ _ ⟨b3, hb3, rfl, rfl, rfl⟩ -- NEW
  refine WL.nil ?_
  refine WP.thenC ?_
  refine WC.seq ?_
  refine WC.ofFr [(3, _), (2, _), (1, _)] ⟨rfl, rfl, rfl, trivial⟩ ?_
  refine WC.region ?_
  refine WL.yd (Yd.func rfl rfl) rfl ?_
  refine WL.defer rfl ?_
  refine WL.nil ?_
  refine WP.thenC ?_
  refine WC.seq ?_
  refine WC.ofFr [(3, _), (2, _), (1, _)] ⟨rfl, rfl, rfl, trivial⟩ ?_
  refine WC.region ?_
  refine WL.yd (Yd.loadN Try.isAgg25 Try.sizeOf25 rfl (vs := [_, _, _]) rfl (by first | exact RdN.own (k := 0) (n := 3) rfl rfl | exact RdN.own (k := 1) (n := 3) rfl rfl)) rfl ?_
  refine WL.no (SO.fail (Enters.func Try.call49 rfl) (fun w hI => open_1 d a1 _ c1 a2 _ c2 _ _ hR hI.imm 67 [] Try.call67 hv) ?_)
  refine WP.thenPanic ?_
  refine WP.panicD (k := 0) [_, _] [_, _] rfl Try.call82 rfl (fun w hI => catch82 _ _ _ _ _ (hI.own _ _ (List.mem_of_getElem? (i := 0) rfl))) Try.results31 ⟨(RV.tmp rfl), (RV.cell1 Try.isAgg29 rfl (by first | exact Rd.own (k := 0) rfl rfl | exact Rd.own (k := 1) rfl rfl)), trivial⟩ (fun w hI => ⟨congrArg Ending.returned (by simp [WhyOut, hv, retV]), hI.keep⟩)

set_option maxRecDepth 100000 in
set_option maxHeartbeats 1000000 in
theorem Why_ok (d : Dips) (a1 : Option Addr) (n1 c1 : Nat) (a2 : Option Addr) (n2 c2 : Nat) (D : Imm) (w : World) (hR : DipsR D d a1 n1 a2 n2) (hH : Holds D w) (hv : dipsB d = true) : Gives Try.prog 31 [.agg #[it d.hours, .slice a1 n1 c1, .slice a2 n2 c2]] w (.tuple #[it (WhyOut d).1, it (WhyOut d).2]) := by
  unfold Gives
  obtain rfl := hR.dip.len'
  obtain rfl := hR.bath.len'
  have hl1 := hR.len1
  have hl2 := hR.len2
  refine enterD Try.func31 rfl 24 Try.ntmps31 (Nat.le_of_ble_eq_true rfl) (Inv.start hH) ?_
  refine WC.seq ?_
  refine WC.ofFr [(0, _)] ⟨rfl, trivial⟩ ?_
  refine WC.region ?_
  refine WL.so (SO.box rfl rfl) rfl ?_
  rintro _ _ _ ⟨b1, hb1, rfl, rfl, rfl⟩ -- NEW
  refine WL.yd (Yd.assign rfl) rfl ?_
  refine WL.so (SO.alloc Try.zeroValue29 rfl) rfl ?_
  rintro _ _ _ ⟨b3, hb3, rfl, rfl, rfl⟩ -- NEW
  refine WL.nil ?_
  refine WP.thenC ?_
  refine WC.seq ?_
  refine WC.ofFr [(3, _), (2, _), (1, _)] ⟨rfl, rfl, rfl, trivial⟩ ?_
  refine WC.region ?_
  refine WL.yd (Yd.func rfl rfl) rfl ?_
  refine WL.defer rfl ?_
  refine WL.nil ?_
  refine WP.thenC ?_
  refine WC.seq ?_
  refine WC.ofFr [(3, _), (2, _), (1, _)] ⟨rfl, rfl, rfl, trivial⟩ ?_
  refine WC.region ?_
  refine WL.yd (Yd.loadN Try.isAgg25 Try.sizeOf25 rfl (vs := [_, _, _]) rfl (by first | exact RdN.own (k := 0) (n := 3) rfl rfl | exact RdN.own (k := 1) (n := 3) rfl rfl)) rfl ?_
  refine WL.so (SO.makes (Enters.func Try.call49 rfl) (fun w hI => open_ok d a1 _ c1 a2 _ c2 _ _ hR hI.imm 67 [] Try.call67 hv rfl (fun D1 w1 b hx hh hb => always_g _ _))) rfl ?_
  rintro _ D2 _ ⟨hX2, ⟨bq, rfl, hB⟩, rfl⟩
  have hR2 := hR.ext hX2
  refine WL.so (SO.alloc Try.zeroValue72 rfl) rfl ?_
  rintro _ _ _ ⟨b4, hb4, rfl, rfl, rfl⟩ -- NEW
  refine WL.so (SO.store 0 rfl Try.sizeOf72 rfl rfl rfl rfl (Nat.le_of_ble_eq_true rfl) (oneB_spec rfl)) rfl ?_
  rintro _ _ _ ⟨rfl, rfl, rfl⟩
  refine WL.nil ?_
  refine WP.thenC ?_
  refine WC.seq ?_
  refine WC.freezeK 0 rfl (fun hn4 => ?_)
  have hX4 := fun o => (DExt.refl w D2).add (o := o) hn4 hb4
  have h55 := (dips_num hv).2.2.1
  refine WC.ofFr [(4, _), (3, _), (2, _), (1, _)] ⟨rfl, rfl, rfl, rfl, trivial⟩ ?_
  refine WC.region ?_
  refine WL.yd (Yd.fieldAddr FA25_2 rfl) rfl ?_
  refine WL.yd (Yd.load1 Try.isAgg23 rfl (by first | exact Rd.own (k := 0) rfl rfl | exact Rd.own (k := 1) rfl rfl)) rfl ?_
  refine WL.yd (Yd.lenS rfl Try.underlying23 rfl) rfl ?_
  refine WL.so (SO.makes (Enters.func Try.call75 rfl) (fun w hI => sets_g d.bathers.length h55 _ w hI.imm)) rfl ?_
  rintro _ D5 _ ⟨hX5, ⟨b14, c14, rfl, hS14⟩, rfl⟩
  have hX25 := (hX4 _).trans hX5 (Nat.le_refl _)
  have hb4D := hX5.old _ _ (Imm.add_self _ _ _)
  have hlt := fstP_lt d.bathers.length h55 (cantB d)
  refine WL.yd (Yd.func rfl rfl) rfl ?_
  refine WL.yd (Yd.build SA106 rfl (cs := [_]) rfl) rfl ?_
  refine WL.so (SO.callP Try.call74 rfl (fun w hI => first_g (setsL d.bathers.length) _ _ c14 D5 w hS14 (Nat.le_trans (Nat.pow_le_pow_right (by omega) h55) (by decide)) hI.imm 83 [pt b4] Try.call83 (cantB d) (fun w1 hH1 i hi => why2_g d a1 _ c1 a2 _ c2 bq b4 _ D5 w1 (hX25.old _ _ hB) hb4D (hR2.ext hX25) hH1 hv))) rfl ?_
  rintro _ _ _ ⟨rfl, rfl, rfl⟩
  refine WL.yd (Yd.move rfl) rfl ?_
  refine WL.yd (Yd.extract rfl rfl) rfl ?_
  refine WL.yd (Yd.extract rfl rfl) rfl ?_
  refine WL.yd (Yd.assign rfl) rfl ?_
  refine WL.yd (Yd.assign rfl) rfl ?_
  refine WL.nil ?_
  refine WP.thenC ?_
  refine WC.seq ?_
  refine WC.ofFr [(6, _), (5, _), (3, _), (2, _)] ⟨rfl, rfl, rfl, rfl, trivial⟩ ?_
  refine WC.region ?_
  refine WL.yd (Yd.move rfl) rfl ?_
  refine WL.part 20 rfl (fun g20 => ?_) (fun g20 => ?_)
  · try simp only [zq1, zq2, zq3, zq4, zq5, zq6, zq7, zq8] at g20
    refine WL.so (SO.call (Enters.func Try.call52 rfl) (fun w hI => must_ok _ _)) rfl ?_
    rintro _ _ _ ⟨rfl, rfl, rfl⟩
    refine WL.nil ?_
    refine WP.thenC ?_
    refine WC.seq ?_
    refine WC.ofFr [(5, _), (3, _), (2, _)] ⟨rfl, rfl, rfl, trivial⟩ ?_
    refine WC.region ?_
    refine WL.yd (Yd.move rfl) rfl ?_
    refine WL.yd (Yd.conv Try.underlying98 Try.underlying3 rfl (wr64 ⟨by omega, by omega⟩)) rfl ?_
    refine WL.yd (Yd.assign rfl) rfl ?_
    refine WL.so (SO.store 0 rfl Try.sizeOf29 rfl rfl rfl rfl (Nat.le_of_ble_eq_true rfl) (oneB_spec rfl)) rfl ?_
    rintro _ _ _ ⟨rfl, rfl, rfl⟩
    refine WL.nil ?_
    refine WP.thenC ?_
    refine WC.ret ?_
    refine WP.endD [_, _] [_, _] rfl rfl Try.call82 (fun w hI => idle82 _ _) Try.results31 ⟨(RV.tmp rfl), (RV.cell1 Try.isAgg29 rfl (by first | exact Rd.own (k := 0) rfl rfl | exact Rd.own (k := 1) rfl rfl)), trivial⟩ (fun w hI => ⟨congrArg Ending.returned (by simp [WhyOut, hv, g20, retV]), hI.keep⟩)
  · try simp only [zq1, zq2, zq3, zq4, zq5, zq6, zq7, zq8] at g20
    refine WL.no (SO.fail (Enters.func Try.call52 rfl) (fun w hI => must_no _ _) ?_)
    refine WP.thenPanic ?_
    refine WP.panicD (k := 0) [_, _] [_, _] rfl Try.call82 rfl (fun w hI => catch82 _ _ _ _ _ (hI.own _ _ (List.mem_of_getElem? (i := 0) rfl))) Try.results31 ⟨(RV.tmp rfl), (RV.cell1 Try.isAgg29 rfl (by first | exact Rd.own (k := 0) rfl rfl | exact Rd.own (k := 1) rfl rfl)), trivial⟩ (fun w hI => ⟨congrArg Ending.returned (by simp [WhyOut, hv, g20, retV]), hI.keep⟩)

end Go.Proofs.Ytidjdonppfegiaa
namespace Go.Proofs.Ytidjdonppfegiaa
open Go.W Go.Dp

def mostTo (d : Dips) : Nat → Nat × Nat
  | 0 => (0, 0)
  | k + 1 => if (mostTo d k).1 < pop (gt (setsL d.bathers.length) k) ∧ (planP (withB d (gt (setsL d.bathers.length) k)) false).isSome = true then (pop (gt (setsL d.bathers.length) k), gt (setsL d.bathers.length) k) else mostTo d k
def MostOut (d : Dips) : Int × Int × Int := if dipsB d = false then (0, 0, 1) else (((mostTo d (2 ^ d.bathers.length)).1 : Int), ((mostTo d (2 ^ d.bathers.length)).2 : Int), 0)
theorem mostTo_lt {d : Dips} (h5 : d.bathers.length ≤ 5) : ∀ k, k ≤ 2 ^ d.bathers.length → (mostTo d k).1 ≤ 5 ∧ (mostTo d k).2 < 32 := by
  intro k
  induction k with
  | zero => intro _; simp [mostTo]
  | succ k ih =>
    intro hk
    have h1 := ih (by omega)
    have h2 := setsL_lt _ h5 _ (gt_mem (l := setsL d.bathers.length) (i := k) (by rw [setsL_len _ h5]; omega))
    have h3 := pop_le (gt (setsL d.bathers.length) k)
    simp only [mostTo]
    split
    · exact ⟨h3, h2⟩
    · exact h1

set_option maxRecDepth 100000 in
set_option maxHeartbeats 1000000 in
theorem Most_1 (d : Dips) (a1 : Option Addr) (n1 c1 : Nat) (a2 : Option Addr) (n2 c2 : Nat) (D : Imm) (w : World) (hR : DipsR D d a1 n1 a2 n2) (hH : Holds D w) (hv : dipsB d = false) : Gives Try.prog 29 [.agg #[it d.hours, .slice a1 n1 c1, .slice a2 n2 c2]] w (.tuple #[it (MostOut d).1, it (MostOut d).2.1, it (MostOut d).2.2]) := by
  unfold Gives
  obtain rfl := hR.dip.len'
  obtain rfl := hR.bath.len'
  have hl1 := hR.len1
  have hl2 := hR.len2
  refine enterD Try.func29 rfl 41 Try.ntmps29 (Nat.le_of_ble_eq_true rfl) (Inv.start hH) ?_
  refine WC.seq ?_
  refine WC.ofFr [(0, _)] ⟨rfl, trivial⟩ ?_
  refine WC.region ?_
  refine WL.so (SO.box rfl rfl) rfl ?_
  rintro _ _ _ ⟨b1, hb1, rfl, rfl, rfl⟩ -- NEW
  refine WL.yd (Yd.assign rfl) rfl ?_
  refine WL.yd (Yd.assign rfl) rfl ?_
  refine WL.so (SO.alloc Try.zeroValue29 rfl) rfl ?_
  rintro _ _ _ ⟨b4, hb4, rfl, rfl, rfl⟩ -- NEW
  refine WL.nil ?_
  refine WP.thenC ?_
  refine WC.seq ?_
  refine WC.ofFr [(4, _), (3, _), (2, _), (1, _)] ⟨rfl, rfl, rfl, rfl, trivial⟩ ?_
  refine WC.region ?_
  refine WL.yd (Yd.func rfl rfl) rfl ?_
  refine WL.defer rfl ?_
  refine WL.nil ?_
  refine WP.thenC ?_
  refine WC.seq ?_
  refine WC.ofFr [(4, _), (3, _), (2, _), (1, _)] ⟨rfl, rfl, rfl, rfl, trivial⟩ ?_
  refine WC.region ?_
  refine WL.yd (Yd.loadN Try.isAgg25 Try.sizeOf25 rfl (vs := [_, _, _]) rfl (by first | exact RdN.own (k := 0) (n := 3) rfl rfl | exact RdN.own (k := 1) (n := 3) rfl rfl | exact (RdN.imm (n := 4) hBY rfl))) rfl ?_
  refine WL.no (SO.fail (Enters.func Try.call49 rfl) (fun w hI => open_1 d a1 _ c1 a2 _ c2 _ _ hR hI.imm 67 [] Try.call67 hv) ?_)
  refine WP.thenPanic ?_
  refine WP.panicD (k := 0) [_, _, _] [_, _, _] rfl Try.call78 rfl (fun w hI => catch78 _ _ _ _ _ (hI.own _ _ (List.mem_of_getElem? (i := 0) rfl))) Try.results29 ⟨(RV.tmp rfl), (RV.tmp rfl), (RV.cell1 Try.isAgg29 rfl (by first | exact Rd.own (k := 0) rfl rfl | exact Rd.own (k := 1) rfl rfl | exact ((hS.at k (by omega)).rd 0 rfl))), trivial⟩ (fun w hI => ⟨congrArg Ending.returned (by simp [MostOut, hv, retV]), hI.keep⟩)

set_option maxRecDepth 100000 in
set_option maxHeartbeats 1000000 in
theorem Most_ok (d : Dips) (a1 : Option Addr) (n1 c1 : Nat) (a2 : Option Addr) (n2 c2 : Nat) (D : Imm) (w : World) (hR : DipsR D d a1 n1 a2 n2) (hH : Holds D w) (hv : dipsB d = true) : Gives Try.prog 29 [.agg #[it d.hours, .slice a1 n1 c1, .slice a2 n2 c2]] w (.tuple #[it (MostOut d).1, it (MostOut d).2.1, it (MostOut d).2.2]) := by
  unfold Gives
  obtain rfl := hR.dip.len'
  obtain rfl := hR.bath.len'
  have hl1 := hR.len1
  have hl2 := hR.len2
  refine enterD Try.func29 rfl 41 Try.ntmps29 (Nat.le_of_ble_eq_true rfl) (Inv.start hH) ?_
  refine WC.seq ?_
  refine WC.ofFr [(0, _)] ⟨rfl, trivial⟩ ?_
  refine WC.region ?_
  refine WL.so (SO.box rfl rfl) rfl ?_
  rintro _ _ _ ⟨b1, hb1, rfl, rfl, rfl⟩ -- NEW
  refine WL.yd (Yd.assign rfl) rfl ?_
  refine WL.yd (Yd.assign rfl) rfl ?_
  refine WL.so (SO.alloc Try.zeroValue29 rfl) rfl ?_
  rintro _ _ _ ⟨b4, hb4, rfl, rfl, rfl⟩ -- NEW
  refine WL.nil ?_
  refine WP.thenC ?_
  refine WC.seq ?_
  refine WC.ofFr [(4, _), (3, _), (2, _), (1, _)] ⟨rfl, rfl, rfl, rfl, trivial⟩ ?_
  refine WC.region ?_
  refine WL.yd (Yd.func rfl rfl) rfl ?_
  refine WL.defer rfl ?_
  refine WL.nil ?_
  refine WP.thenC ?_
  refine WC.seq ?_
  refine WC.ofFr [(4, _), (3, _), (2, _), (1, _)] ⟨rfl, rfl, rfl, rfl, trivial⟩ ?_
  refine WC.region ?_
  refine WL.yd (Yd.loadN Try.isAgg25 Try.sizeOf25 rfl (vs := [_, _, _]) rfl (by first | exact RdN.own (k := 0) (n := 3) rfl rfl | exact RdN.own (k := 1) (n := 3) rfl rfl | exact (RdN.imm (n := 4) hBY rfl))) rfl ?_
  refine WL.so (SO.makes (Enters.func Try.call49 rfl) (fun w hI => open_ok d a1 _ c1 a2 _ c2 _ _ hR hI.imm 67 [] Try.call67 hv rfl (fun D1 w1 b hx hh hb => always_g _ _))) rfl ?_
  rintro _ D2 _ ⟨hX2, ⟨bq, rfl, hB⟩, rfl⟩
  have hR2 := hR.ext hX2
  refine WL.yd (Yd.assign rfl) rfl ?_
  refine WL.nil ?_
  refine WP.thenC ?_
  refine WC.seq ?_
  refine WC.ofFr [(5, _), (4, _), (3, _), (2, _), (1, _)] ⟨rfl, rfl, rfl, rfl, rfl, trivial⟩ ?_
  refine WC.region ?_
  refine WL.yd (Yd.assign rfl) rfl ?_
  refine WL.yd (Yd.assign rfl) rfl ?_
  refine WL.nil ?_
  refine WP.thenC ?_
  refine WC.seq ?_
  refine WC.seq ?_
  refine WC.ofFr [(7, _), (6, _), (5, _), (4, _), (3, _), (2, _), (1, _)] ⟨rfl, rfl, rfl, rfl, rfl, rfl, rfl, trivial⟩ ?_
  refine WC.region ?_
  have h55 := (dips_num hv).2.2.1
  have h32 : 2 ^ d.bathers.length ≤ 2 ^ 5 := Nat.pow_le_pow_right (by omega) h55
  refine WL.yd (Yd.fieldAddr FA25_2 rfl) rfl ?_
  refine WL.yd (Yd.load1 Try.isAgg23 rfl (by first | exact Rd.own (k := 0) rfl rfl | exact Rd.own (k := 1) rfl rfl | exact ((hS.at k (by omega)).rd 0 rfl))) rfl ?_
  refine WL.yd (Yd.lenS rfl Try.underlying23 rfl) rfl ?_
  refine WL.so (SO.makes (Enters.func Try.call75 rfl) (fun w hI => sets_g d.bathers.length h55 _ w hI.imm)) rfl ?_
  rintro _ D5 _ ⟨hX5, ⟨b16, c16, rfl, hS16⟩, rfl⟩
  have hX25 := hX2.trans hX5 (Nat.le_refl _)
  have hB5 := hX5.old _ _ hB
  refine WL.yd (Yd.lenS rfl Try.underlying101 rfl) rfl ?_
  refine WL.yd (Yd.move rfl) rfl ?_
  refine WL.nil ?_
  refine WP.thenC ?_
  refine WC.block ?_
  refine WC.loop (fun y : Nat × Imm => [(4, pt b4), (5, pt bq), (6, nt (mostTo d y.1).1), (7, ut (mostTo d y.1).2), (16, .slice (some ⟨b16, 0, none⟩) (2 ^ d.bathers.length) c16), (17, nt (2 ^ d.bathers.length)), (18, nt y.1)]) (fun _ => [(b4, .cells (List.toArray [it 0]) 29 (0, 0))]) (fun y => y.2) (fun y => y.1 ≤ 2 ^ d.bathers.length ∧ DExt w D5 y.2) (fun y => 2 ^ d.bathers.length - y.1) (0, D5) ⟨Nat.zero_le _, DExt.refl _ _⟩ (fun a w h => at_less h ⟨rfl, rfl, rfl, rfl, rfl, rfl, rfl, trivial⟩ (fun _ h => List.mem_append_left [_] h) (fun _ => by simp)) ?_
  rintro ⟨k, DY⟩ ⟨hk, hXY⟩
  dsimp only at hk hXY
  have hBY := hXY.old _ _ hB5
  have hRY := (hR2.ext hX5).ext hXY
  have hS := hS16.ext hXY
  refine WC.seq ?_
  refine WC.ofFr [(4, _), (5, _), (6, _), (7, _), (16, _), (17, _), (18, _)] ⟨rfl, rfl, rfl, rfl, rfl, rfl, rfl, trivial⟩ ?_
  refine WC.region ?_
  refine WL.yd (Yd.lss rfl rfl) rfl ?_
  refine WL.nil ?_
  refine WP.thenC ?_
  refine WC.seq ?_
  refine WC.cond rfl (fun c19 => ?_) (fun c19 => ?_)
  · try simp only [zq1, zq2, zq3, zq4, zq5, zq6, zq7, zq8] at c19
    have hx32 := setsL_lt _ h55 _ (gt_mem (l := setsL d.bathers.length) (i := k) (by rw [setsL_len _ h55]; omega))
    refine WC.skip ?_
    refine WP.thenC ?_
    refine WC.seq ?_
    refine WC.block ?_
    refine WC.seq ?_
    refine WC.ofFr [(4, _), (5, _), (6, _), (7, _), (16, _), (17, _), (18, _)] ⟨rfl, rfl, rfl, rfl, rfl, rfl, rfl, trivial⟩ ?_
    refine WC.region ?_
    refine WL.yd (Yd.indexS Try.underlying101 Try.sizeOf98 rfl rfl (by omega) (by omega) (by first | exact (show (some ⟨b16, 0, none⟩ : Option Addr) = some ⟨sb (some ⟨b16, 0, none⟩), so (some ⟨b16, 0, none⟩), none⟩ from rfl))) rfl ?_
    refine WL.yd (Yd.load1 Try.isAgg98 rfl (by first | exact Rd.own (k := 0) rfl rfl | exact ((hS.at k (by omega)).rd 0 rfl))) rfl ?_
    refine WL.yd (Yd.assign rfl) rfl ?_
    refine WL.nil ?_
    refine WP.thenC ?_
    refine WC.seq ?_
    refine WC.ofFr [(9, _), (4, _), (5, _), (6, _), (7, _), (16, _), (17, _), (18, _)] ⟨rfl, rfl, rfl, rfl, rfl, rfl, rfl, rfl, trivial⟩ ?_
    refine WC.region ?_
    refine WL.yd (Yd.move rfl) rfl ?_
    refine WL.so (SO.callP Try.call79 rfl (fun w hI => ones_g _ hx32 _)) rfl ?_
    rintro _ _ _ ⟨rfl, rfl, rfl⟩
    refine WL.yd (Yd.move rfl) rfl ?_
    refine WL.yd (Yd.gtr rfl rfl) rfl ?_
    refine WL.yd (Yd.move rfl) rfl ?_
    refine WL.part 26 rfl (fun g26 => ?_) (fun g26 => ?_)
    · try simp only [zq1, zq2, zq3, zq4, zq5, zq6, zq7, zq8] at g26
      have hgt : (mostTo d k).1 < pop (gt (setsL d.bathers.length) k) := by omega
      refine WL.ydg rfl (Yd.move rfl) rfl ?_
      refine WL.ydg rfl (Yd.nilCheck rfl) rfl ?_
      refine WL.ydg rfl (Yd.loadN Try.isAgg89 Try.sizeOf89 rfl (vs := [_, _, _, _]) rfl (by first | exact RdN.own (k := 0) (n := 4) rfl rfl | exact (RdN.imm (n := 4) hBY rfl))) rfl ?_
      refine WL.ydg rfl (Yd.move rfl) rfl ?_
      refine WL.sog rfl (SO.makes (Enters.func Try.call80 rfl) (fun w hI => with_g d a1 _ c1 a2 _ c2 DY w hRY hI.imm (gt (setsL d.bathers.length) k) _ _ _ rfl h55)) rfl ?_
      rintro _ D6 _ ⟨hX6, ⟨b2, a2', n2', c2', rfl, hB6, hR6⟩, rfl⟩
      refine WL.sog rfl (SO.callP Try.call71 rfl (fun w hI => can_g (withB d (gt (setsL d.bathers.length) k)) false a1 _ c1 a2' n2' c2' b2 D6 w hB6 hR6 hI.imm (withB_ok hv _))) rfl ?_
      rintro _ _ _ ⟨rfl, rfl, rfl⟩
      refine WL.yd (Yd.pickT rfl rfl) rfl ?_
      refine WL.nil ?_
      refine WP.thenC ?_
      refine WC.cond rfl (fun c33 => ?_) (fun c33 => ?_)
      · try simp only [zq1, zq2, zq3, zq4, zq5, zq6, zq7, zq8] at c33
        have hm1 : mostTo d (k + 1) = (pop (gt (setsL d.bathers.length) k), gt (setsL d.bathers.length) k) := by
          simp only [mostTo]; rw [if_pos ⟨hgt, c33⟩]
        refine WC.ofFr [(9, _), (4, _), (5, _), (6, _), (7, _), (16, _), (17, _), (18, _)] ⟨rfl, rfl, rfl, rfl, rfl, rfl, rfl, rfl, trivial⟩ ?_
        refine WC.region ?_
        refine WL.yd (Yd.move rfl) rfl ?_
        refine WL.so (SO.callP Try.call79 rfl (fun w hI => ones_g _ hx32 _)) rfl ?_
        rintro _ _ _ ⟨rfl, rfl, rfl⟩
        refine WL.yd (Yd.move rfl) rfl ?_
        refine WL.yd (Yd.assign rfl) rfl ?_
        refine WL.yd (Yd.assign rfl) rfl ?_
        refine WL.nil ?_
        refine WP.blkNormal ?_
        refine WP.thenC ?_
        refine WC.ofFr [(7, _), (6, _), (4, _), (5, _), (16, _), (17, _), (18, _)] ⟨rfl, rfl, rfl, rfl, rfl, rfl, rfl, trivial⟩ ?_
        refine WC.region ?_
        refine WL.yd (Yd.add rfl rfl (wr64 ⟨by omega, by omega⟩)) rfl ?_
        refine WL.yd (Yd.move rfl) rfl ?_
        refine WL.nil ?_
        first
          | (refine WP.again (⟨k + 1, D6⟩ : Nat × Imm) ⟨by simp only; omega, hXY.trans hX6 (Nat.le_refl _)⟩ (by simp only; omega) (fun aa ww h => ?_)
             simp only [hm1]
             exact at_fr h ⟨rfl, rfl, rfl, rfl, rfl, rfl, rfl, trivial⟩)
          | (refine WP.again (⟨k + 1, DY⟩ : Nat × Imm) ⟨by simp only; omega, hXY⟩ (by simp only; omega) (fun aa ww h => ?_)
             simp only [hm1]
             exact at_fr h ⟨rfl, rfl, rfl, rfl, rfl, rfl, rfl, trivial⟩)
      · try simp only [zq1, zq2, zq3, zq4, zq5, zq6, zq7, zq8] at c33
        have hm1 : mostTo d (k + 1) = mostTo d k := by
          simp only [mostTo]; rw [if_neg (fun hh => by rw [c33] at hh; simp at hh)]
        refine WC.skip ?_
        refine WP.blkNormal ?_
        refine WP.thenC ?_
        refine WC.ofFr [(4, _), (5, _), (6, _), (7, _), (16, _), (17, _), (18, _)] ⟨rfl, rfl, rfl, rfl, rfl, rfl, rfl, trivial⟩ ?_
        refine WC.region ?_
        refine WL.yd (Yd.add rfl rfl (wr64 ⟨by omega, by omega⟩)) rfl ?_
        refine WL.yd (Yd.move rfl) rfl ?_
        refine WL.nil ?_
        first
          | (refine WP.again (⟨k + 1, D6⟩ : Nat × Imm) ⟨by simp only; omega, hXY.trans hX6 (Nat.le_refl _)⟩ (by simp only; omega) (fun aa ww h => ?_)
             simp only [hm1]
             exact at_fr h ⟨rfl, rfl, rfl, rfl, rfl, rfl, rfl, trivial⟩)
          | (refine WP.again (⟨k + 1, DY⟩ : Nat × Imm) ⟨by simp only; omega, hXY⟩ (by simp only; omega) (fun aa ww h => ?_)
             simp only [hm1]
             exact at_fr h ⟨rfl, rfl, rfl, rfl, rfl, rfl, rfl, trivial⟩)
    · try simp only [zq1, zq2, zq3, zq4, zq5, zq6, zq7, zq8] at g26
      have hm1 : mostTo d (k + 1) = mostTo d k := by
        simp only [mostTo]; rw [if_neg (fun hh => by omega)]
      refine WL.skip rfl rfl ?_
      refine WL.skip rfl rfl ?_
      refine WL.skip rfl rfl ?_
      refine WL.skip rfl rfl ?_
      refine WL.skip rfl rfl ?_
      refine WL.skip rfl rfl ?_
      refine WL.yd (Yd.pickF rfl rfl) rfl ?_
      refine WL.nil ?_
      refine WP.thenC ?_
      refine WC.condF rfl ?_
      refine WC.skip ?_
      refine WP.blkNormal ?_
      refine WP.thenC ?_
      refine WC.ofFr [(4, _), (5, _), (6, _), (7, _), (16, _), (17, _), (18, _)] ⟨rfl, rfl, rfl, rfl, rfl, rfl, rfl, trivial⟩ ?_
      refine WC.region ?_
      refine WL.yd (Yd.add rfl rfl (wr64 ⟨by omega, by omega⟩)) rfl ?_
      refine WL.yd (Yd.move rfl) rfl ?_
      refine WL.nil ?_
      first
        | (refine WP.again (⟨k + 1, D6⟩ : Nat × Imm) ⟨by simp only; omega, hXY.trans hX6 (Nat.le_refl _)⟩ (by simp only; omega) (fun aa ww h => ?_)
           simp only [hm1]
           exact at_fr h ⟨rfl, rfl, rfl, rfl, rfl, rfl, rfl, trivial⟩)
        | (refine WP.again (⟨k + 1, DY⟩ : Nat × Imm) ⟨by simp only; omega, hXY⟩ (by simp only; omega) (fun aa ww h => ?_)
           simp only [hm1]
           exact at_fr h ⟨rfl, rfl, rfl, rfl, rfl, rfl, rfl, trivial⟩)
  · try simp only [zq1, zq2, zq3, zq4, zq5, zq6, zq7, zq8] at c19
    refine WC.exit ?_
    refine WP.thenExit ?_
    refine WP.thenExit ?_
    refine WP.blkHit ?_
    refine WP.thenC ?_
    refine WC.seq ?_
    refine WC.ofFr [(4, _), (6, _), (7, _)] ⟨rfl, rfl, rfl, trivial⟩ ?_
    refine WC.region ?_
    obtain rfl : k = 2 ^ d.bathers.length := by omega
    have hml := mostTo_lt h55 (2 ^ d.bathers.length) (Nat.le_refl _)
    refine WL.yd (Yd.move rfl) rfl ?_
    refine WL.yd (Yd.move rfl) rfl ?_
    refine WL.yd (Yd.conv Try.underlying98 Try.underlying3 rfl (wr64 ⟨by dsimp only; omega, by dsimp only; omega⟩)) rfl ?_
    refine WL.yd (Yd.assign rfl) rfl ?_
    refine WL.yd (Yd.assign rfl) rfl ?_
    refine WL.so (SO.store 0 rfl Try.sizeOf29 rfl rfl rfl rfl (Nat.le_of_ble_eq_true rfl) (oneB_spec rfl)) rfl ?_
    rintro _ _ _ ⟨rfl, rfl, rfl⟩
    refine WL.nil ?_
    refine WP.thenC ?_
    refine WC.ret ?_
    refine WP.endD [_, _, _] [_, _, _] rfl rfl Try.call78 (fun w hI => idle78 _ _) Try.results29 ⟨(RV.tmp rfl), (RV.tmp rfl), (RV.cell1 Try.isAgg29 rfl (by first | exact Rd.own (k := 0) rfl rfl | exact ((hS.at k (by omega)).rd 0 rfl))), trivial⟩ (fun w hI => ⟨congrArg Ending.returned (by simp [MostOut, hv, retV]), hI.keep⟩)

end Go.Proofs.Ytidjdonppfegiaa
namespace Go.Proofs.Ytidjdonppfegiaa
open Go.W Go.Dp

theorem dipperC_len (x : Dipper) : (dipperC x).length = 3 := rfl
theorem dipperC_one (l : List Dipper) : ∀ v ∈ l.flatMap dipperC, v.oneCell' = true := fun v hv => by
  obtain ⟨x, _, hx⟩ := List.mem_flatMap.1 hv
  simp only [dipperC, List.mem_cons, List.mem_nil_iff, or_false] at hx
  rcases hx with rfl | rfl | rfl <;> rfl
def CloneK (l : List Dipper) (a1 : Option Addr) (n1 : Nat) (w : World) (D : Imm) (v : Value) (D' : Imm) (hpc' : Hp) : Prop :=
  D = D' ∧ ((a1 = none ∧ v = .slice none 0 0 ∧ hpc' = []) ∨ ∃ u : Ow, v = owV (some u) n1 ∧ owP w (some u) n1 3 ∧ hpc' = [(u.b, .cells (List.toArray (l.flatMap dipperC ++ u.rest)) 53 (0, 0))])

set_option maxRecDepth 100000 in
set_option maxHeartbeats 1000000 in
theorem clone_n (l : List Dipper) (a1 : Option Addr) (n1 c1 : Nat) (D : Imm) (w : World) (hS : SlL D 3 (l.map dipperC) a1 n1) (hn : n1 ≤ 1000) (hH : Holds D w) (hl : l ≠ []) : News Try.prog 101 [.slice a1 n1 c1] w D (CloneK l a1 n1 w D) := by
  unfold News
  have hn1 := hS.len'
  refine enter Try.func101 rfl 8 Try.ntmps101 (Nat.le_of_ble_eq_true rfl) (Inv.start hH) ?_
  refine WC.seq ?_
  refine WC.ofFr [(0, _)] ⟨rfl, trivial⟩ ?_
  refine WC.region ?_
  refine WL.yd (Yd.assign rfl) rfl ?_
  refine WL.nil ?_
  refine WP.thenC ?_
  refine WC.seq ?_
  refine WC.seq ?_
  refine WC.ofFr [(2, _), (0, _)] ⟨rfl, rfl, trivial⟩ ?_
  refine WC.region ?_
  refine WL.yd (Yd.move rfl) rfl ?_
  refine WL.yd (Yd.nilEq Try.underlying22 rfl rfl) rfl ?_
  refine WL.nil ?_
  refine WP.thenC ?_
  refine WC.cond rfl (fun c4 => ?_) (fun c4 => ?_)
  · try simp only [zq1, zq2, zq3, zq4, zq5, zq6, zq7, zq8] at c4
    have ha : a1 = none := by simpa using c4
    refine WC.seq ?_
    refine WC.ofFr [(2, _), (0, _)] ⟨rfl, rfl, trivial⟩ ?_
    refine WC.region ?_
    refine WL.yd (Yd.assign rfl) rfl ?_
    refine WL.nil ?_
    refine WP.thenC ?_
    refine WC.ret ?_
    refine WP.thenRet ?_
    refine WP.ret1 rfl rfl Try.results101 (RV.tmp rfl) (fun w1 hI => ⟨_, D, [], rfl, DExt.refl _ _, hI, rfl, .inl ⟨ha, rfl, rfl⟩⟩)
  · try simp only [zq1, zq2, zq3, zq4, zq5, zq6, zq7, zq8] at c4
    refine WC.skip ?_
    refine WP.thenC ?_
    refine WC.seq ?_
    refine WC.ofFr [(2, _), (0, _)] ⟨rfl, rfl, trivial⟩ ?_
    refine WC.region ?_
    refine WL.so (SO.buildSlice0 Try.underlying22 Try.sizeOf53) rfl ?_
    rintro _ _ _ ⟨b5, hb5, rfl, rfl, rfl⟩ -- NEW
    refine WL.yd (Yd.move rfl) rfl ?_
    refine WL.so (SO.appendSome (o := ⟨b5, 0, []⟩) (len := 0) (n := n1) (xs := []) (ys := l.flatMap dipperC) (size := 3) [] _ rfl rfl Try.underlying22 Try.sizeOf53 Try.typeInfo53 Try.zeroValue53 rfl rfl rfl rfl (hS.rdS dipperC_len (fun e => absurd e hl)) (dipperC_one _) ⟨hb5, Nat.le_refl _, rfl⟩ rfl (by show (2 * (_ + _) + 1000) * 24 ≤ 2 ^ 48; omega) (by omega)) rfl ?_
    rintro _ _ _ ⟨u7, hu7, rfl, rfl, rfl⟩
    refine WL.yd (Yd.assign rfl) rfl ?_
    refine WL.nil ?_
    refine WP.thenC ?_
    refine WC.ret ?_
    refine WP.ret1 rfl rfl Try.results101 (RV.tmp rfl) (fun w1 hI => ⟨_, D, _, rfl, DExt.refl _ _, hI, rfl, .inr ⟨u7, by rw [Nat.zero_add], by rw [Nat.zero_add] at hu7; exact hu7, rfl⟩⟩)

set_option maxRecDepth 100000 in
set_option maxHeartbeats 1000000 in
theorem clone_0 (l : List Dipper) (a1 : Option Addr) (n1 c1 : Nat) (D : Imm) (w : World) (hS : SlL D 3 (l.map dipperC) a1 n1) (hn : n1 ≤ 1000) (hH : Holds D w) (hl : l = []) : News Try.prog 101 [.slice a1 n1 c1] w D (CloneK l a1 n1 w D) := by
  unfold News
  have hn1 := hS.len'
  subst hl
  obtain rfl : n1 = 0 := by simpa using hn1
  refine enter Try.func101 rfl 8 Try.ntmps101 (Nat.le_of_ble_eq_true rfl) (Inv.start hH) ?_
  refine WC.seq ?_
  refine WC.ofFr [(0, _)] ⟨rfl, trivial⟩ ?_
  refine WC.region ?_
  refine WL.yd (Yd.assign rfl) rfl ?_
  refine WL.nil ?_
  refine WP.thenC ?_
  refine WC.seq ?_
  refine WC.seq ?_
  refine WC.ofFr [(2, _), (0, _)] ⟨rfl, rfl, trivial⟩ ?_
  refine WC.region ?_
  refine WL.yd (Yd.move rfl) rfl ?_
  refine WL.yd (Yd.nilEq Try.underlying22 rfl rfl) rfl ?_
  refine WL.nil ?_
  refine WP.thenC ?_
  refine WC.cond rfl (fun c4 => ?_) (fun c4 => ?_)
  · try simp only [zq1, zq2, zq3, zq4, zq5, zq6, zq7, zq8] at c4
    have ha : a1 = none := by simpa using c4
    refine WC.seq ?_
    refine WC.ofFr [(2, _), (0, _)] ⟨rfl, rfl, trivial⟩ ?_
    refine WC.region ?_
    refine WL.yd (Yd.assign rfl) rfl ?_
    refine WL.nil ?_
    refine WP.thenC ?_
    refine WC.ret ?_
    refine WP.thenRet ?_
    refine WP.ret1 rfl rfl Try.results101 (RV.tmp rfl) (fun w1 hI => ⟨_, D, [], rfl, DExt.refl _ _, hI, rfl, .inl ⟨ha, rfl, rfl⟩⟩)
  · try simp only [zq1, zq2, zq3, zq4, zq5, zq6, zq7, zq8] at c4
    refine WC.skip ?_
    refine WP.thenC ?_
    refine WC.seq ?_
    refine WC.ofFr [(2, _), (0, _)] ⟨rfl, rfl, trivial⟩ ?_
    refine WC.region ?_
    refine WL.so (SO.buildSlice0 Try.underlying22 Try.sizeOf53) rfl ?_
    rintro _ _ _ ⟨b5, hb5, rfl, rfl, rfl⟩ -- NEW
    refine WL.yd (Yd.move rfl) rfl ?_
    refine WL.so (SO.appendNil (o := ⟨b5, 0, []⟩) (len := 0) rfl rfl Try.underlying22 Try.sizeOf53 rfl rfl (Nat.le_refl _)) rfl ?_
    rintro _ _ _ ⟨rfl, rfl, rfl⟩
    refine WL.yd (Yd.assign rfl) rfl ?_
    refine WL.nil ?_
    refine WP.thenC ?_
    refine WC.ret ?_
    refine WP.ret1 rfl rfl Try.results101 (RV.tmp rfl) (fun w1 hI => ⟨_, D, _, rfl, DExt.refl _ _, hI, rfl, .inr ⟨⟨b5, 0, []⟩, rfl, ⟨hb5, Nat.le_refl _, rfl⟩, rfl⟩⟩)

end Go.Proofs.Ytidjdonppfegiaa
namespace Go.Proofs.Ytidjdonppfegiaa
open Go.W Go.Dp

theorem splice_one {cs : List Value} {off : Nat} {v : Value} (h : off < cs.length) : splice cs off [v] = cs.set off v := by
  rw [← splice_cons cs off v [] h, splice_nil]
theorem set_flat {α : Type} [Inhabited α] {f : α → List Value} {m : Nat} (hf : ∀ x, (f x).length = m) {j : Nat} (hj : j < m) {v : Value} {y : α} (rest : List Value) : ∀ (l : List α) (k : Nat), k < l.length → f y = (f (gt l k)).set j v → (l.flatMap f ++ rest).set (k * m + j) v = (l.set k y).flatMap f ++ rest := by
  intro l
  induction l with
  | nil => intro k hk; simp at hk
  | cons x l ih =>
    intro k hk hy
    cases k with
    | zero =>
      have hy' : f y = (f x).set j v := hy
      rw [List.flatMap_cons, List.set_cons_zero, List.flatMap_cons, hy', List.append_assoc, List.append_assoc, Nat.zero_mul, Nat.zero_add, List.set_append_left _ _ (by rw [hf]; exact hj)]
    | succ k =>
      have hlt : (f x).length ≤ (k + 1) * m + j := by rw [hf, Nat.succ_mul]; omega
      have e : (k + 1) * m + j - (f x).length = k * m + j := by rw [hf, Nat.succ_mul]; omega
      rw [List.flatMap_cons, List.set_cons_succ, List.flatMap_cons, List.append_assoc, List.append_assoc, List.set_append_right _ _ hlt, e, ih k (by simpa using hk) hy]
theorem splice_flat {α : Type} [Inhabited α] {f : α → List Value} {m : Nat} (hf : ∀ x, (f x).length = m) {j : Nat} (hj : j < m) {v : Value} {y : α} (rest : List Value) (l : List α) (k : Nat) (hk : k < l.length) (hy : f y = (f (gt l k)).set j v) : splice (l.flatMap f ++ rest) (0 + k * m + j) [v] = (l.set k y).flatMap f ++ rest := by
  rw [Nat.zero_add, splice_one, set_flat hf hj rest l k hk hy]
  rw [List.length_append, flat_len hf]
  have : (k + 1) * m ≤ l.length * m := Nat.mul_le_mul_right m hk
  rw [Nat.succ_mul] at this
  omega
/-- dippers, of the first k only those of a set with their hours -/
def byL (l : List Dipper) (s : Nat) : Nat → List Dipper
  | 0 => l
  | k + 1 => if s / 2 ^ k % 2 = 1 then byL l s k else (byL l s k).set k ⟨(gt l k).hands, 0⟩
def byB (d : Dips) (s : Nat) : Dips := ⟨d.hours, byL d.dippers s d.dippers.length, d.bathers⟩
theorem byL_len (l : List Dipper) (s : Nat) : ∀ k, (byL l s k).length = l.length := by
  intro k; induction k with
  | zero => rfl
  | succ k ih => simp only [byL]; split
                 · exact ih
                 · rw [List.length_set, ih]
theorem gt_setD {α : Type} [Inhabited α] (l : List α) (k i : Nat) (y : α) (hk : k < l.length) : gt (l.set k y) i = if k = i then y else gt l i := by
  simp only [gt, List.getD, List.getElem?_set]
  split
  · rename_i h; subst h; simp [hk]
  · rfl
theorem byL_at (l : List Dipper) (s : Nat) : ∀ k i, k ≤ l.length → gt (byL l s k) i = if i < k ∧ ¬ s / 2 ^ i % 2 = 1 then ⟨(gt l i).hands, 0⟩ else gt l i := by
  intro k
  induction k with
  | zero => intro i _; rw [if_neg (fun h => by omega)]; rfl
  | succ k ih =>
    intro i hk
    simp only [byL]
    split
    · rename_i h1
      rw [ih i (by omega)]
      by_cases e : i = k
      · subst e; rw [if_neg (fun h => by omega), if_neg (fun h => h.2 h1)]
      · have : (i < k ∧ ¬ s / 2 ^ i % 2 = 1) ↔ (i < k + 1 ∧ ¬ s / 2 ^ i % 2 = 1) := ⟨fun h => ⟨by omega, h.2⟩, fun h => ⟨by omega, h.2⟩⟩
        simp only [this]
    · rename_i h1
      rw [gt_setD _ _ _ _ (by rw [byL_len]; omega), ih i (by omega)]
      by_cases e : k = i
      · subst e; rw [if_pos rfl, if_pos ⟨by omega, h1⟩]
      · rw [if_neg e]
        have : (i < k ∧ ¬ s / 2 ^ i % 2 = 1) ↔ (i < k + 1 ∧ ¬ s / 2 ^ i % 2 = 1) := ⟨fun h => ⟨by omega, h.2⟩, fun h => ⟨by omega, h.2⟩⟩
        simp only [this]
def dCs (l : List Dipper) (s k : Nat) : List Value := (byL l s k).flatMap dipperC
theorem dCs_len (l : List Dipper) (s k : Nat) : (dCs l s k).length = l.length * 3 := by rw [dCs, flat_len dipperC_len, byL_len]
theorem dCs_step {l : List Dipper} {s k : Nat} {rest : List Value} (hk : k < l.length) (h : ¬ s / 2 ^ k % 2 = 1) : splice (dCs l s k ++ rest) (0 + k * 3 + 2) [it 0] = dCs l s (k + 1) ++ rest := by
  have e : byL l s (k + 1) = (byL l s k).set k ⟨(gt l k).hands, 0⟩ := if_neg h
  rw [dCs, dCs, e]
  refine splice_flat dipperC_len (by omega) rest _ k (by rw [byL_len]; exact hk) ?_
  rw [byL_at l s k k (by omega), if_neg (fun h => by omega)]
  rfl
theorem slL_none {D : Imm} {m n : Nat} {l : List (List Value)} (h : SlL D m l none n) : l = [] := by
  cases l with
  | nil => rfl
  | cons x l => have := (h.row 0 x rfl).1; cases this
theorem owP_mono {w0 w : World} {o : Option Ow} {n m : Nat} (h : w0.heap.size ≤ w.heap.size) (ho : owP w o n m) : owP w0 o n m := by
  cases o with
  | none => exact ho
  | some u => exact ⟨Nat.le_trans h ho.1, ho.2⟩
def CloneO (l : List Dipper) (n1 : Nat) (w0 : World) (D : Imm) (v : Value) (D' : Imm) (hpc' : Hp) : Prop :=
  D = D' ∧ ∃ o : Option Ow, v = .slice (owA o) n1 (owC o n1) ∧ owP w0 o n1 3 ∧ hpc' = owH o 53 (l.flatMap dipperC) []
theorem clone_g (w0 : World) (l : List Dipper) (a1 : Option Addr) (n1 c1 : Nat) (D : Imm) (w : World) (hS : SlL D 3 (l.map dipperC) a1 n1) (hn : n1 ≤ 1000) (hH : Holds D w) (hle : w0.heap.size ≤ w.heap.size) : News Try.prog 101 [.slice a1 n1 c1] w D (CloneO l n1 w0 D) := by
  have h : News Try.prog 101 [.slice a1 n1 c1] w D (CloneK l a1 n1 w D) := by
    by_cases hl : l = []
    · exact clone_0 l a1 n1 c1 D w hS hn hH hl
    · exact clone_n l a1 n1 c1 D w hS hn hH hl
  refine Calls.mono h fun e w' ⟨v, D', hpc', h1, h2, h3, h4, h5⟩ => ⟨v, D', hpc', h1, h2, h3, h4, ?_⟩
  rcases h5 with ⟨ha, hv, hp⟩ | ⟨u, hv, hu, hp⟩
  · subst ha
    have h0 := slL_none hS
    have hn0 := hS.len'
    rw [List.map_eq_nil_iff] at h0
    subst h0
    obtain rfl : n1 = 0 := by simpa using hn0
    exact ⟨none, hv, rfl, hp⟩
  · exact ⟨some u, hv, owP_mono hle hu, hp⟩

set_option maxRecDepth 100000 in
set_option maxHeartbeats 1000000 in
theorem by_g (d : Dips) (a1 : Option Addr) (n1 c1 : Nat) (a2 : Option Addr) (n2 c2 : Nat) (D : Imm) (w : World) (hR : DipsR D d a1 n1 a2 n2) (hH : Holds D w) (s : Nat) (tt : TypeId) (tv tr : Value) (htr : tr = .iface tt tv) (h3 : d.dippers.length ≤ 3) : Makes Try.prog 77 [.agg #[it d.hours, .slice a1 n1 c1, .slice a2 n2 c2, tr], ut s] w D (fun v D' => ∃ b a n c, v = pt b ∧ BeachAt D' b d (.slice a n c) (.slice a2 n2 c2) tr ∧ DipsR D' (byB d s) a n a2 n2) := by
  unfold Makes
  obtain rfl := hR.dip.len'
  obtain rfl := hR.bath.len'
  have hl1 := hR.len1
  have hl2 := hR.len2
  refine enter Try.func77 rfl 29 Try.ntmps77 (Nat.le_of_ble_eq_true rfl) (Inv.start hH) ?_
  refine WC.seq ?_
  refine WC.ofFr [(0, _), (1, _)] ⟨rfl, rfl, trivial⟩ ?_
  refine WC.region ?_
  refine WL.so (SO.box rfl rfl) rfl ?_
  rintro _ _ _ ⟨b2, hb2, rfl, rfl, rfl⟩ -- NEW
  refine WL.yd (Yd.assign rfl) rfl ?_
  refine WL.nil ?_
  refine WP.thenC ?_
  refine WC.seq ?_
  refine WC.ofFr [(4, _), (2, _), (1, _)] ⟨rfl, rfl, rfl, trivial⟩ ?_
  refine WC.region ?_
  refine WL.yd (Yd.fieldAddr FA89_0 rfl) rfl ?_
  refine WL.yd (Yd.fieldAddr FA25_1 rfl) rfl ?_
  refine WL.yd (Yd.load1 Try.isAgg22 rfl (by first | exact Rd.own (k := 0) rfl rfl)) rfl ?_
  refine WL.so (SO.news (Enters.func Try.call101 rfl) (fun w1 hI => clone_g w d.dippers a1 _ c1 D w1 hR.dip hR.len1 hI.imm hI.keep.size)) rfl ?_
  rintro _ _ _ ⟨_, _, ⟨rfl, o, rfl, ho, rfl⟩, rfl⟩
  refine WL.yd (Yd.assign rfl) rfl ?_
  refine WL.nil ?_
  refine WP.thenC ?_
  refine WC.seq ?_
  refine WC.seq ?_
  refine WC.ofFr [(5, _), (4, _), (2, _), (1, _)] ⟨rfl, rfl, rfl, rfl, trivial⟩ ?_
  refine WC.region ?_
  refine WL.yd (Yd.move rfl) rfl ?_
  refine WL.yd (Yd.lenS rfl Try.underlying22 rfl) rfl ?_
  refine WL.yd (Yd.move rfl) rfl ?_
  refine WL.nil ?_
  refine WP.thenC ?_
  refine WC.block ?_
  refine WC.loop (fun k : Nat => [(1, ut s), (2, pt b2), (5, .slice (owA o) d.dippers.length (owC o d.dippers.length)), (11, .slice (owA o) d.dippers.length (owC o d.dippers.length)), (12, nt d.dippers.length), (13, nt k)]) (fun k => (b2, .cells (List.toArray [it d.hours, .slice a1 d.dippers.length c1, .slice a2 d.bathers.length c2, tr]) 89 (0, 0)) :: owH o 53 (dCs d.dippers s k) []) (fun _ => D) (fun k => k ≤ d.dippers.length) (fun k => d.dippers.length - k) 0 (by omega) (fun a w h => at_fr h ⟨rfl, rfl, rfl, rfl, rfl, rfl, trivial⟩) ?_
  intro k hk
  refine WC.seq ?_
  refine WC.ofFr [(1, _), (2, _), (5, _), (11, _), (12, _), (13, _)] ⟨rfl, rfl, rfl, rfl, rfl, rfl, trivial⟩ ?_
  refine WC.region ?_
  refine WL.yd (Yd.lss rfl rfl) rfl ?_
  refine WL.nil ?_
  refine WP.thenC ?_
  refine WC.seq ?_
  refine WC.cond rfl (fun c14 => ?_) (fun c14 => ?_)
  · try simp only [zq1, zq2, zq3, zq4, zq5, zq6, zq7, zq8] at c14
    refine WC.skip ?_
    refine WP.thenC ?_
    refine WC.seq ?_
    refine WC.block ?_
    refine WC.seq ?_
    refine WC.ofFr [(1, _), (2, _), (5, _), (11, _), (12, _), (13, _)] ⟨rfl, rfl, rfl, rfl, rfl, rfl, trivial⟩ ?_
    refine WC.region ?_
    refine WL.yd (Yd.move rfl) rfl ?_
    refine WL.yd (Yd.assign rfl) rfl ?_
    refine WL.nil ?_
    refine WP.thenC ?_
    refine WC.seq ?_
    refine WC.ofFr [(6, _), (1, _), (2, _), (5, _), (11, _), (12, _), (13, _)] ⟨rfl, rfl, rfl, rfl, rfl, rfl, rfl, trivial⟩ ?_
    refine WC.region ?_
    refine WL.yd (Yd.move rfl) rfl ?_
    refine WL.yd (Yd.move rfl) rfl ?_
    refine WL.yd (Yd.shrUN rfl rfl (by omega)) rfl ?_
    refine WL.yd (Yd.andU1 rfl rfl) rfl ?_
    refine WL.yd (Yd.eql rfl rfl) rfl ?_
    refine WL.nil ?_
    refine WP.thenC ?_
    refine WC.cond rfl (fun c20 => ?_) (fun c20 => ?_)
    · try simp only [zq1, zq2, zq3, zq4, zq5, zq6, zq7, zq8] at c20
      have hbit : ¬ s / 2 ^ k % 2 = 1 := by omega
      obtain ⟨u, rfl⟩ : ∃ u, o = some u := by
        cases o with
        | none => have h0 : d.dippers.length = 0 := ho
                  omega
        | some u => exact ⟨u, rfl⟩
      refine WC.ofFr [(6, _), (1, _), (2, _), (5, _), (11, _), (12, _), (13, _)] ⟨rfl, rfl, rfl, rfl, rfl, rfl, rfl, trivial⟩ ?_
      refine WC.region ?_
      refine WL.yd (Yd.move rfl) rfl ?_
      refine WL.yd (Yd.move rfl) rfl ?_
      refine WL.yd (Yd.indexS Try.underlying22 Try.sizeOf53 rfl rfl (by omega) (by omega) (by first | exact (show owA (some u) = some ⟨u.b, 0, none⟩ from rfl))) rfl ?_
      refine WL.yd (Yd.fieldAddr FA53_1 rfl) rfl ?_
      refine WL.so (SO.store 1 rfl Try.sizeOf3 rfl rfl rfl rfl (by show 0 + k * 3 + 2 + 1 ≤ _; rw [List.length_append, dCs_len]; omega) (oneB_spec rfl)) rfl ?_
      rintro _ _ _ ⟨rfl, rfl, rfl⟩
      refine WL.nil ?_
      refine WP.blkNormal ?_
      refine WP.thenC ?_
      refine WC.ofFr [(1, _), (2, _), (5, _), (11, _), (12, _), (13, _)] ⟨rfl, rfl, rfl, rfl, rfl, rfl, trivial⟩ ?_
      refine WC.region ?_
      refine WL.yd (Yd.add rfl rfl (wr64 ⟨by omega, by omega⟩)) rfl ?_
      refine WL.yd (Yd.move rfl) rfl ?_
      refine WL.nil ?_
      first
        | (have hp1 : dCs d.dippers s (k + 1) = dCs d.dippers s k := by rw [dCs, dCs, byL, if_pos hbit]
           refine WP.again (k + 1 : Nat) (by omega) (by omega) (fun aa ww h => ?_)
           rw [hp1]
           exact at_fr h ⟨rfl, rfl, rfl, rfl, rfl, rfl, trivial⟩)
        | (have hp1 := dCs_step (l := d.dippers) (rest := u.rest) (by omega) hbit
           refine WP.again (k + 1 : Nat) (by omega) (by omega) (fun aa ww h => ?_)
           show At _ [(1, ut s), (2, pt b2), (5, .slice (owA (some u)) d.dippers.length (owC (some u) d.dippers.length)), (11, .slice (owA (some u)) d.dippers.length (owC (some u) d.dippers.length)), (12, nt d.dippers.length), (13, nt (k + 1))] D ((b2, .cells (List.toArray [it d.hours, .slice a1 d.dippers.length c1, .slice a2 d.bathers.length c2, tr]) 89 (0, 0)) :: (u.b, .cells (List.toArray (dCs d.dippers s (k + 1) ++ u.rest)) 53 (0, 0)) :: []) aa ww
           rw [← hp1]
           exact at_fr h ⟨rfl, rfl, rfl, rfl, rfl, rfl, trivial⟩)
    · try simp only [zq1, zq2, zq3, zq4, zq5, zq6, zq7, zq8] at c20
      have hbit : s / 2 ^ k % 2 = 1 := by omega
      refine WC.skip ?_
      refine WP.blkNormal ?_
      refine WP.thenC ?_
      refine WC.ofFr [(1, _), (2, _), (5, _), (11, _), (12, _), (13, _)] ⟨rfl, rfl, rfl, rfl, rfl, rfl, trivial⟩ ?_
      refine WC.region ?_
      refine WL.yd (Yd.add rfl rfl (wr64 ⟨by omega, by omega⟩)) rfl ?_
      refine WL.yd (Yd.move rfl) rfl ?_
      refine WL.nil ?_
      first
        | (have hp1 : dCs d.dippers s (k + 1) = dCs d.dippers s k := by rw [dCs, dCs, byL, if_pos hbit]
           refine WP.again (k + 1 : Nat) (by omega) (by omega) (fun aa ww h => ?_)
           rw [hp1]
           exact at_fr h ⟨rfl, rfl, rfl, rfl, rfl, rfl, trivial⟩)
        | (have hp1 := dCs_step (l := d.dippers) (rest := u.rest) (by omega) hbit
           refine WP.again (k + 1 : Nat) (by omega) (by omega) (fun aa ww h => ?_)
           show At _ [(1, ut s), (2, pt b2), (5, .slice (owA (some u)) d.dippers.length (owC (some u) d.dippers.length)), (11, .slice (owA (some u)) d.dippers.length (owC (some u) d.dippers.length)), (12, nt d.dippers.length), (13, nt (k + 1))] D ((b2, .cells (List.toArray [it d.hours, .slice a1 d.dippers.length c1, .slice a2 d.bathers.length c2, tr]) 89 (0, 0)) :: (u.b, .cells (List.toArray (dCs d.dippers s (k + 1) ++ u.rest)) 53 (0, 0)) :: []) aa ww
           rw [← hp1]
           exact at_fr h ⟨rfl, rfl, rfl, rfl, rfl, rfl, trivial⟩)
  · try simp only [zq1, zq2, zq3, zq4, zq5, zq6, zq7, zq8] at c14
    refine WC.exit ?_
    refine WP.thenExit ?_
    refine WP.thenExit ?_
    refine WP.blkHit ?_
    refine WP.thenC ?_
    refine WC.seq ?_
    refine WC.ofFr [(2, _), (5, _)] ⟨rfl, rfl, trivial⟩ ?_
    refine WC.region ?_
    obtain rfl : k = d.dippers.length := by omega
    refine WL.yd (Yd.move rfl) rfl ?_
    refine WL.yd (Yd.fieldAddr FA89_0 rfl) rfl ?_
    refine WL.yd (Yd.fieldAddr FA25_1 rfl) rfl ?_
    refine WL.so (SO.store 0 rfl Try.sizeOf22 rfl rfl rfl rfl (Nat.le_of_ble_eq_true rfl) (oneB_spec rfl)) rfl ?_
    rintro _ _ _ ⟨rfl, rfl, rfl⟩
    refine WL.nil ?_
    refine WP.thenC ?_
    refine WC.seq ?_
    refine WC.ofFr [(2, _)] ⟨rfl, trivial⟩ ?_
    refine WC.region ?_
    refine WL.yd (Yd.assign rfl) rfl ?_
    refine WL.nil ?_
    refine WP.thenC ?_
    refine WC.ret ?_
    refine WP.ret1 rfl rfl Try.results77 (RV.tmp rfl) (fun w1 hI => ?_)
    have hf := hI.freeze
    have hn2 : D b2 = none := hI.apart _ _ (List.mem_of_getElem? (i := 0) rfl)
    have hX2 := fun o => (DExt.refl w D).add (o := o) hn2 hb2
    cases o with
    | none =>
      have h0 : d.dippers.length = 0 := ho
      have hd0 : byL d.dippers s d.dippers.length = [] := List.length_eq_zero_iff.1 (by rw [byL_len]; exact h0)
      refine ⟨_, _, rfl, hI.keep, hf.imm, hX2 _, b2, none, d.dippers.length, 0, rfl, Imm.add_self _ _ _, ⟨⟨?_, fun i r hr => ?_⟩, hR.bath.ext (hX2 _), by omega, by omega⟩⟩
      · rw [List.length_map]; exact (byL_len _ _ _).symm
      · have : (byB d s).dippers = [] := hd0
        rw [this] at hr; simp at hr
    | some u =>
      have hf2 := hf.freeze
      have hnu := hf.apart _ _ (List.mem_of_getElem? (i := 0) rfl)
      have hXu := fun o => (DExt.refl w (D.add b2 _)).add (o := o) hnu ho.1
      have hX := fun o => (hX2 _).trans (hXu o) (Nat.le_refl _)
      refine ⟨_, _, rfl, hI.keep, hf2.imm, hX _, b2, some ⟨u.b, 0, none⟩, d.dippers.length, u.cap, rfl, (hXu _).old _ _ (Imm.add_self _ _ _), ⟨?_, hR.bath.ext (hX _), by omega, by omega⟩⟩
      exact ⟨by rw [List.length_map]; exact (byL_len _ _ _).symm, (SlL.ofBlock dipperC_len (Imm.add_self _ _ _)).row⟩

end Go.Proofs.Ytidjdonppfegiaa
namespace Go.Proofs.Ytidjdonppfegiaa
open Go.W Go.Dp

theorem byB_ok {d : Dips} (hv : dipsB d = true) (s : Nat) : dipsB (byB d s) = true := by
  obtain ⟨h1, h2, h3, h4, h5⟩ := (dipsB_iff d).1 hv
  refine (dipsB_iff _).2 ⟨h1, ?_, h3, fun i hi => ?_, h5⟩
  · show (byL d.dippers s d.dippers.length).length ≤ 3
    rw [byL_len]; exact h2
  · have hi' : i < d.dippers.length := by have := hi; simp only [byB, byL_len] at this; exact this
    show dipperB d.hours (gt (byL d.dippers s d.dippers.length) i) = true
    rw [byL_at _ _ _ _ (Nat.le_refl _)]
    have hd := h4 i hi'
    split
    · have hp := Int.natCast_pos.2 (Nat.pow_pos (n := d.hours.toNat) (show 0 < 2 by omega))
      simp only [dipperB, setB, inB, Bool.and_eq_true, decide_eq_true_eq] at hd ⊢
      exact ⟨hd.1, by omega, by omega⟩
    · exact hd
def byCan (d : Dips) (s : Nat) : Bool := (planP (byB d s) false).isSome
def FewestOut (d : Dips) : Int × Int := if dipsB d = false then (0, 1) else if (fstP (setsL d.dippers.length) (byCan d)).2 then ((fstP (setsL d.dippers.length) (byCan d)).1, 0) else (0, 4)

set_option maxRecDepth 100000 in
set_option maxHeartbeats 1000000 in
theorem few2_g (d : Dips) (a1 : Option Addr) (n1 c1 : Nat) (a2 : Option Addr) (n2 c2 : Nat) (q bx s : Nat) (D : Imm) (w : World) (hB : BeachAt D q d (.slice a1 n1 c1) (.slice a2 n2 c2) worstV) (hX : D bx = some (.cells (List.toArray [pt q]) 72 (0, 0))) (hR : DipsR D d a1 n1 a2 n2) (hH : Holds D w) (hv : dipsB d = true) : Gives Try.prog 76 [ut s, pt bx] w (.bool (byCan d s)) := by
  unfold Gives
  refine enter Try.func76 rfl 10 Try.ntmps76 (Nat.le_of_ble_eq_true rfl) (Inv.start hH) ?_
  refine WC.seq ?_
  refine WC.ofFr [(0, _), (1, _)] ⟨rfl, rfl, trivial⟩ ?_
  refine WC.region ?_
  refine WL.yd (Yd.assign rfl) rfl ?_
  refine WL.nil ?_
  refine WP.thenC ?_
  refine WC.seq ?_
  refine WC.ofFr [(3, _), (0, _), (1, _)] ⟨rfl, rfl, rfl, trivial⟩ ?_
  refine WC.region ?_
  refine WL.yd (Yd.load1 Try.isAgg72 rfl (by first | exact (Rd.imm hX rfl))) rfl ?_
  refine WL.yd (Yd.nilCheck rfl) rfl ?_
  refine WL.yd (Yd.loadN Try.isAgg89 Try.sizeOf89 rfl (vs := [_, _, _, _]) rfl (by first | exact (RdN.imm (n := 4) hB rfl))) rfl ?_
  refine WL.yd (Yd.move rfl) rfl ?_
  refine WL.so (SO.makes (Enters.func Try.call77 rfl) (fun w hI => by_g d a1 _ c1 a2 _ c2 D w hR hI.imm s _ _ _ rfl (dips_num hv).2.1)) rfl ?_
  rintro _ D2 _ ⟨hX2, ⟨b2, a1', n1', c1', rfl, hB2, hR2⟩, rfl⟩
  refine WL.so (SO.callP Try.call71 rfl (fun w hI => can_g (byB d s) false a1' _ c1' a2 _ c2 b2 D2 w hB2 hR2 hI.imm (byB_ok hv s))) rfl ?_
  rintro _ _ _ ⟨rfl, rfl, rfl⟩
  refine WL.yd (Yd.assign rfl) rfl ?_
  refine WL.nil ?_
  refine WP.thenC ?_
  refine WC.ret ?_
  refine WP.ret1 rfl rfl Try.results76 (RV.tmp rfl) (fun w hI => ⟨rfl, hI.keep⟩)

set_option maxRecDepth 100000 in
set_option maxHeartbeats 1000000 in
theorem Fewest_1 (d : Dips) (a1 : Option Addr) (n1 c1 : Nat) (a2 : Option Addr) (n2 c2 : Nat) (D : Imm) (w : World) (hR : DipsR D d a1 n1 a2 n2) (hH : Holds D w) (hv : dipsB d = false) : Gives Try.prog 26 [.agg #[it d.hours, .slice a1 n1 c1, .slice a2 n2 c2]] w (.tuple #[it (FewestOut d).1, it (FewestOut d).2]) := by
  unfold Gives
  obtain rfl := hR.dip.len'
  obtain rfl := hR.bath.len'
  have hl1 := hR.len1
  have hl2 := hR.len2
  refine enterD Try.func26 rfl 24 Try.ntmps26 (Nat.le_of_ble_eq_true rfl) (Inv.start hH) ?_
  refine WC.seq ?_
  refine WC.ofFr [(0, _)] ⟨rfl, trivial⟩ ?_
  refine WC.region ?_
  refine WL.so (SO.box rfl rfl) rfl ?_
  rintro _ _ _ ⟨b1, hb1, rfl, rfl, rfl⟩ -- NEW
  refine WL.yd (Yd.assign rfl) rfl ?_
  refine WL.so (SO.alloc Try.zeroValue29 rfl) rfl ?_
  rintro _ _ _ ⟨b3, hb3, rfl, rfl, rfl⟩ -- NEW
  refine WL.nil ?_
  refine WP.thenC ?_
  refine WC.seq ?_
  refine WC.ofFr [(3, _), (2, _), (1, _)] ⟨rfl, rfl, rfl, trivial⟩ ?_
  refine WC.region ?_
  refine WL.yd (Yd.func rfl rfl) rfl ?_
  refine WL.defer rfl ?_
  refine WL.nil ?_
  refine WP.thenC ?_
  refine WC.seq ?_
  refine WC.ofFr [(3, _), (2, _), (1, _)] ⟨rfl, rfl, rfl, trivial⟩ ?_
  refine WC.region ?_
  refine WL.yd (Yd.loadN Try.isAgg25 Try.sizeOf25 rfl (vs := [_, _, _]) rfl (by first | exact RdN.own (k := 0) (n := 3) rfl rfl | exact RdN.own (k := 1) (n := 3) rfl rfl)) rfl ?_
  refine WL.no (SO.fail (Enters.func Try.call49 rfl) (fun w hI => open_1 d a1 _ c1 a2 _ c2 _ _ hR hI.imm 67 [] Try.call67 hv) ?_)
  refine WP.thenPanic ?_
  refine WP.panicD (k := 0) [_, _] [_, _] rfl Try.call73 rfl (fun w hI => catch73 _ _ _ _ _ (hI.own _ _ (List.mem_of_getElem? (i := 0) rfl))) Try.results26 ⟨(RV.tmp rfl), (RV.cell1 Try.isAgg29 rfl (by first | exact Rd.own (k := 0) rfl rfl | exact Rd.own (k := 1) rfl rfl)), trivial⟩ (fun w hI => ⟨congrArg Ending.returned (by simp [FewestOut, hv, retV]), hI.keep⟩)

set_option maxRecDepth 100000 in
set_option maxHeartbeats 1000000 in
theorem Fewest_ok (d : Dips) (a1 : Option Addr) (n1 c1 : Nat) (a2 : Option Addr) (n2 c2 : Nat) (D : Imm) (w : World) (hR : DipsR D d a1 n1 a2 n2) (hH : Holds D w) (hv : dipsB d = true) : Gives Try.prog 26 [.agg #[it d.hours, .slice a1 n1 c1, .slice a2 n2 c2]] w (.tuple #[it (FewestOut d).1, it (FewestOut d).2]) := by
  unfold Gives
  obtain rfl := hR.dip.len'
  obtain rfl := hR.bath.len'
  have hl1 := hR.len1
  have hl2 := hR.len2
  refine enterD Try.func26 rfl 24 Try.ntmps26 (Nat.le_of_ble_eq_true rfl) (Inv.start hH) ?_
  refine WC.seq ?_
  refine WC.ofFr [(0, _)] ⟨rfl, trivial⟩ ?_
  refine WC.region ?_
  refine WL.so (SO.box rfl rfl) rfl ?_
  rintro _ _ _ ⟨b1, hb1, rfl, rfl, rfl⟩ -- NEW
  refine WL.yd (Yd.assign rfl) rfl ?_
  refine WL.so (SO.alloc Try.zeroValue29 rfl) rfl ?_
  rintro _ _ _ ⟨b3, hb3, rfl, rfl, rfl⟩ -- NEW
  refine WL.nil ?_
  refine WP.thenC ?_
  refine WC.seq ?_
  refine WC.ofFr [(3, _), (2, _), (1, _)] ⟨rfl, rfl, rfl, trivial⟩ ?_
  refine WC.region ?_
  refine WL.yd (Yd.func rfl rfl) rfl ?_
  refine WL.defer rfl ?_
  refine WL.nil ?_
  refine WP.thenC ?_
  refine WC.seq ?_
  refine WC.ofFr [(3, _), (2, _), (1, _)] ⟨rfl, rfl, rfl, trivial⟩ ?_
  refine WC.region ?_
  refine WL.yd (Yd.loadN Try.isAgg25 Try.sizeOf25 rfl (vs := [_, _, _]) rfl (by first | exact RdN.own (k := 0) (n := 3) rfl rfl | exact RdN.own (k := 1) (n := 3) rfl rfl)) rfl ?_
  refine WL.so (SO.makes (Enters.func Try.call49 rfl) (fun w hI => open_ok d a1 _ c1 a2 _ c2 _ _ hR hI.imm 67 [] Try.call67 hv rfl (fun D1 w1 b hx hh hb => always_g _ _))) rfl ?_
  rintro _ D2 _ ⟨hX2, ⟨bq, rfl, hB⟩, rfl⟩
  have hR2 := hR.ext hX2
  refine WL.so (SO.alloc Try.zeroValue72 rfl) rfl ?_
  rintro _ _ _ ⟨b4, hb4, rfl, rfl, rfl⟩ -- NEW
  refine WL.so (SO.store 0 rfl Try.sizeOf72 rfl rfl rfl rfl (Nat.le_of_ble_eq_true rfl) (oneB_spec rfl)) rfl ?_
  rintro _ _ _ ⟨rfl, rfl, rfl⟩
  refine WL.nil ?_
  refine WP.thenC ?_
  refine WC.seq ?_
  refine WC.freezeK 0 rfl (fun hn4 => ?_)
  have hX4 := fun o => (DExt.refl w D2).add (o := o) hn4 hb4
  have h55 : d.dippers.length ≤ 5 := Nat.le_trans (dips_num hv).2.1 (by omega)
  refine WC.ofFr [(4, _), (3, _), (2, _), (1, _)] ⟨rfl, rfl, rfl, rfl, trivial⟩ ?_
  refine WC.region ?_
  refine WL.yd (Yd.fieldAddr FA25_1 rfl) rfl ?_
  refine WL.yd (Yd.load1 Try.isAgg22 rfl (by first | exact Rd.own (k := 0) rfl rfl | exact Rd.own (k := 1) rfl rfl)) rfl ?_
  refine WL.yd (Yd.lenS rfl Try.underlying22 rfl) rfl ?_
  refine WL.so (SO.makes (Enters.func Try.call75 rfl) (fun w hI => sets_g d.dippers.length h55 _ w hI.imm)) rfl ?_
  rintro _ D5 _ ⟨hX5, ⟨b14, c14, rfl, hS14⟩, rfl⟩
  have hX25 := (hX4 _).trans hX5 (Nat.le_refl _)
  have hb4D := hX5.old _ _ (Imm.add_self _ _ _)
  have hlt := fstP_lt d.dippers.length h55 (byCan d)
  refine WL.yd (Yd.func rfl rfl) rfl ?_
  refine WL.yd (Yd.build SA106 rfl (cs := [_]) rfl) rfl ?_
  refine WL.so (SO.callP Try.call74 rfl (fun w hI => first_g (setsL d.dippers.length) _ _ c14 D5 w hS14 (Nat.le_trans (Nat.pow_le_pow_right (by omega) h55) (by decide)) hI.imm 76 [pt b4] Try.call76 (byCan d) (fun w1 hH1 i hi => few2_g d a1 _ c1 a2 _ c2 bq b4 _ D5 w1 (hX25.old _ _ hB) hb4D (hR2.ext hX25) hH1 hv))) rfl ?_
  rintro _ _ _ ⟨rfl, rfl, rfl⟩
  refine WL.yd (Yd.move rfl) rfl ?_
  refine WL.yd (Yd.extract rfl rfl) rfl ?_
  refine WL.yd (Yd.extract rfl rfl) rfl ?_
  refine WL.yd (Yd.assign rfl) rfl ?_
  refine WL.yd (Yd.assign rfl) rfl ?_
  refine WL.nil ?_
  refine WP.thenC ?_
  refine WC.seq ?_
  refine WC.ofFr [(6, _), (5, _), (3, _), (2, _)] ⟨rfl, rfl, rfl, rfl, trivial⟩ ?_
  refine WC.region ?_
  refine WL.yd (Yd.move rfl) rfl ?_
  refine WL.part 20 rfl (fun g20 => ?_) (fun g20 => ?_)
  · try simp only [zq1, zq2, zq3, zq4, zq5, zq6, zq7, zq8] at g20
    refine WL.so (SO.call (Enters.func Try.call52 rfl) (fun w hI => must_ok _ _)) rfl ?_
    rintro _ _ _ ⟨rfl, rfl, rfl⟩
    refine WL.nil ?_
    refine WP.thenC ?_
    refine WC.seq ?_
    refine WC.ofFr [(5, _), (3, _), (2, _)] ⟨rfl, rfl, rfl, trivial⟩ ?_
    refine WC.region ?_
    refine WL.yd (Yd.move rfl) rfl ?_
    refine WL.yd (Yd.conv Try.underlying98 Try.underlying3 rfl (wr64 ⟨by omega, by omega⟩)) rfl ?_
    refine WL.yd (Yd.assign rfl) rfl ?_
    refine WL.so (SO.store 0 rfl Try.sizeOf29 rfl rfl rfl rfl (Nat.le_of_ble_eq_true rfl) (oneB_spec rfl)) rfl ?_
    rintro _ _ _ ⟨rfl, rfl, rfl⟩
    refine WL.nil ?_
    refine WP.thenC ?_
    refine WC.ret ?_
    refine WP.endD [_, _] [_, _] rfl rfl Try.call73 (fun w hI => idle73 _ _) Try.results26 ⟨(RV.tmp rfl), (RV.cell1 Try.isAgg29 rfl (by first | exact Rd.own (k := 0) rfl rfl | exact Rd.own (k := 1) rfl rfl)), trivial⟩ (fun w hI => ⟨congrArg Ending.returned (by simp [FewestOut, hv, g20, retV]), hI.keep⟩)
  · try simp only [zq1, zq2, zq3, zq4, zq5, zq6, zq7, zq8] at g20
    refine WL.no (SO.fail (Enters.func Try.call52 rfl) (fun w hI => must_no _ _) ?_)
    refine WP.thenPanic ?_
    refine WP.panicD (k := 0) [_, _] [_, _] rfl Try.call73 rfl (fun w hI => catch73 _ _ _ _ _ (hI.own _ _ (List.mem_of_getElem? (i := 0) rfl))) Try.results26 ⟨(RV.tmp rfl), (RV.cell1 Try.isAgg29 rfl (by first | exact Rd.own (k := 0) rfl rfl | exact Rd.own (k := 1) rfl rfl)), trivial⟩ (fun w hI => ⟨congrArg Ending.returned (by simp [FewestOut, hv, g20, retV]), hI.keep⟩)

end Go.Proofs.Ytidjdonppfegiaa
