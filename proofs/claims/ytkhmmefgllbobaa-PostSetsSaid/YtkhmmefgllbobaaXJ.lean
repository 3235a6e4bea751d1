import Derived.Test.YtkhmmefgllbobaaXI
import Derived.Test.YtkhmmefgllbobaaXV
import Derived.Test.YtkhmmefgllbobaaXT
set_option linter.unusedSimpArgs false
set_option linter.unusedVariables false
set_option linter.all false
namespace Go.Proofs.Ytkhmmefgllbobaa
open Go.W Go.Po

set_option maxRecDepth 100000 in
set_option maxHeartbeats 1000000 in
theorem can_g (p : Post) (a1 : Option Addr) (n1 c1 : Nat) (a2 : Option Addr) (n2 c2 : Nat) (q : Nat) (D : Imm) (w : World) (hB : BeachAt D q p (.slice a1 n1 c1) (.slice a2 n2 c2)) (hR : PostR D p a1 n1 a2 n2) (hH : Holds D w) (hv : postB p = true) (s : Nat) : Gives Try.prog 75 [pt q, ut s] w (.bool (farOk p (selA p s))) := by
  unfold Gives
  obtain rfl := hR.bath.len'
  obtain rfl := hR.claim.len'
  have hl1 := hR.len1
  have hl2 := hR.len2
  have h8 := (post_num hv).2.2.1
  refine enter Try.func75 rfl 16 Try.ntmps75 (Nat.le_of_ble_eq_true rfl) (Inv.start hH) ?_
  refine WC.seq ?_
  refine WC.ofFr [(0, _), (1, _)] ⟨rfl, rfl, trivial⟩ ?_
  refine WC.region ?_
  refine WL.yd (Yd.assign rfl) rfl ?_
  refine WL.nil ?_
  refine WP.thenC ?_
  refine WC.seq ?_
  refine WC.ofFr [(4, _), (0, _), (1, _)] ⟨rfl, rfl, rfl, trivial⟩ ?_
  refine WC.region ?_
  refine WL.yd (Yd.move rfl) rfl ?_
  refine WL.yd (Yd.move rfl) rfl ?_
  refine WL.yd (Yd.move rfl) rfl ?_
  refine WL.so (SO.news (Enters.func Try.call63 rfl) (fun w2 hI => rules_w w p a1 _ c1 a2 _ c2 q D w2 hB hR hI.imm hv s hI.keep.size)) rfl ?_
  rintro _ D1 _ ⟨_, hX1, ⟨o, rfl, ho, rfl⟩, rfl⟩
  refine WL.know 11 (.slice (owAt o) ((selA p s)).length (owCp o ((selA p s)).length)) rfl (owV_owL (owL_of ho)) ?_
  refine WL.freezeOw (f := ruleC) (m := 1) ruleC_len [] [] o 88 ((selA p s)) rfl ho rfl (fun D2 hX2 hS2 => ?_)
  replace hB := (hB.ext hX1).ext hX2
  replace hR := (hR.ext hX1).ext hX2
  have hl3 : (selA p s).length ≤ 1000 := by have := selR_len p s p.claims.length; unfold selA; omega
  refine WL.so (SO.makes (Enters.func Try.call62 rfl) (fun w hI => bounds_g p a1 _ c1 a2 _ c2 q D2 _ hB hR hI.imm hv (selA p s) (owAt o) _ _ hS2 hl3 (selA_in hv _))) rfl ?_
  rintro _ D3 _ ⟨hX3, ⟨es, clock, bm, rfl, hbm, hM⟩, rfl⟩
  refine WL.yd (Yd.move rfl) rfl ?_
  refine WL.yd (Yd.extract rfl rfl) rfl ?_
  refine WL.yd (Yd.extract rfl rfl) rfl ?_
  refine WL.yd (Yd.assign rfl) rfl ?_
  refine WL.yd (Yd.assign rfl) rfl ?_
  refine WL.nil ?_
  refine WP.thenC ?_
  refine WC.seq ?_
  refine WC.ofFr [(6, _), (4, _)] ⟨rfl, rfl, trivial⟩ ?_
  refine WC.region ?_
  refine WL.yd (Yd.move rfl) rfl ?_
  refine WL.yd (Yd.assign rfl) rfl ?_
  refine WL.nil ?_
  refine WP.thenC ?_
  refine WC.ret ?_
  refine WP.ret1 rfl rfl Try.results75 (RV.tmp rfl) (fun w hI => ⟨rfl, hI.keep⟩)

def utC (x : Nat) : List Value := [ut x]
theorem utC_len : ∀ x, (utC x).length = 1 := fun _ => rfl
theorem flat_ut (l : List Nat) : l.flatMap utC = l.map ut := by
  induction l with
  | nil => rfl
  | cons x l ih => rw [List.flatMap_cons, ih]; rfl
/-- the numbers below i, then nothing but 0 -/
def rl (n i : Nat) : List Nat := (List.range n).map fun j => if j < i then j else 0
theorem rl_len (n i : Nat) : (rl n i).length = n := by simp [rl]
theorem rl_all (n : Nat) : rl n n = List.range n := by
  apply List.ext_getElem (by simp [rl])
  intro j h1 h2
  simp at h2
  simp [rl, h2]
theorem rl_set {n i : Nat} : (rl n i).set i i = rl n (i + 1) := by
  apply List.ext_getElem (by simp [rl])
  intro j h1 h2
  simp only [List.getElem_set, rl, List.getElem_map, List.getElem_range]
  split
  · rename_i e; subst e; rw [if_pos (by omega)]
  · by_cases h : j < i
    · rw [if_pos h, if_pos (by omega)]
    · rw [if_neg h, if_neg (by omega)]
theorem zeroL_ut (n : Nat) : zeroL [.int .u64 0] n = (List.replicate n 0).map ut := by
  induction n with
  | zero => rfl
  | succ n ih => rw [zeroL, ih, List.replicate_succ', List.map_append]; simp [Nat.mod_one]
theorem rl_zero (n : Nat) : (rl n 0).map ut ++ [] = zeroL [.int .u64 0] (n * 1) := by
  rw [Nat.mul_one, zeroL_ut, List.append_nil]
  congr 1
  apply List.ext_getElem (by simp [rl])
  intro j h1 h2
  simp [rl]
theorem sets_len : ∀ k, k < 9 → (setsL k).length = 2 ^ k := fun k hk => by
  have h := srt k (by omega)
  have := (sortS_ok (n := 2 ^ k) (l := List.range (2 ^ k)) ⟨by simp, fun i hi => by
    have h2 : 2 ^ k ≤ 2 ^ 8 := Nat.pow_le_pow_right (by omega) (by omega)
    simp at hi
    simp [gt, List.getD, hi]; omega⟩ h).1
  exact this
theorem range_ok {k : Nat} (hk : k ≤ 8) : Ok (2 ^ k) (List.range (2 ^ k)) := ⟨by simp, fun i hi => by
    have h2 : 2 ^ k ≤ 2 ^ 8 := Nat.pow_le_pow_right (by omega) (by omega)
    simp at hi
    simp [gt, List.getD, hi]; omega⟩

set_option maxRecDepth 100000 in
set_option maxHeartbeats 1000000 in
theorem sizes_g (p : Post) (a1 : Option Addr) (n1 c1 : Nat) (a2 : Option Addr) (n2 c2 : Nat) (q : Nat) (D : Imm) (w : World) (hB : BeachAt D q p (.slice a1 n1 c1) (.slice a2 n2 c2)) (hR : PostR D p a1 n1 a2 n2) (hH : Holds D w) (hv : postB p = true) : Makes Try.prog 77 [pt q] w D (fun v D' => ∃ b cap, v = .slice (some ⟨b, 0, none⟩) (2 ^ p.claims.length) cap ∧ SlL D' 1 ((setsL p.claims.length).map utC) (some ⟨b, 0, none⟩) (2 ^ p.claims.length)) := by
  unfold Makes
  obtain rfl := hR.bath.len'
  obtain rfl := hR.claim.len'
  have hl1 := hR.len1
  have hl2 := hR.len2
  have h8 := (post_num hv).2.2.1
  have h25 : 2 ^ p.claims.length ≤ 2 ^ 8 := Nat.pow_le_pow_right (by omega) h8
  have h21 : 1 ≤ 2 ^ p.claims.length := Nat.one_le_two_pow
  have hev : everyS p + 1 = 2 ^ p.claims.length := by unfold everyS; omega
  refine enter Try.func77 rfl 30 Try.ntmps77 (Nat.le_of_ble_eq_true rfl) (Inv.start hH) ?_
  refine WC.seq ?_
  refine WC.ofFr [(0, _)] ⟨rfl, trivial⟩ ?_
  refine WC.region ?_
  refine WL.yd (Yd.assign rfl) rfl ?_
  refine WL.nil ?_
  refine WP.thenC ?_
  refine WC.seq ?_
  refine WC.ofFr [(2, _), (0, _)] ⟨rfl, rfl, trivial⟩ ?_
  refine WC.region ?_
  refine WL.yd (Yd.move rfl) rfl ?_
  refine WL.so (SO.callP Try.call64 rfl (fun w hI => every_g p a1 _ c1 a2 _ c2 q D _ hB hR hI.imm hv)) rfl ?_
  rintro _ _ _ ⟨rfl, rfl, rfl⟩
  refine WL.yd (Yd.addU (i := everyS p) (j := 1) rfl rfl (by unfold everyS; omega)) rfl ?_
  refine WL.know 8 (ut (2 ^ p.claims.length)) rfl (by rw [hev]) ?_
  refine WL.so (SO.makeSliceU (n := (2 ^ p.claims.length)) Try.underlying112 Try.sizeOf99 Try.typeInfo99 Try.zeroValue99 rfl rfl rfl (by omega) (by show 8 * (((2 ^ p.claims.length) : Nat) : Int) ≤ 2 ^ 48; omega)) rfl ?_
  rintro _ _ _ ⟨b9, hb9, rfl, rfl, rfl⟩
  refine WL.yd (Yd.assign rfl) rfl ?_
  refine WL.nil ?_
  refine WP.thenC ?_
  refine WC.seq ?_
  refine WC.seq ?_
  refine WC.ofFr [(3, _), (2, _)] ⟨rfl, rfl, trivial⟩ ?_
  refine WC.region ?_
  skip
  refine WL.yd (Yd.move rfl) rfl ?_
  refine WL.yd (Yd.lenS rfl Try.underlying112 rfl) rfl ?_
  refine WL.yd (Yd.move rfl) rfl ?_
  refine WL.nil ?_
  refine WP.thenC ?_
  refine WC.block ?_
  rw [← rl_zero (2 ^ p.claims.length)]
  refine WC.loop (fun k : Nat => [(3, .slice (some ⟨b9, 0, none⟩) (2 ^ p.claims.length) (2 ^ p.claims.length)), (11, nt (2 ^ p.claims.length)), (12, nt k)]) (fun k => [(b9, datO (rl (2 ^ p.claims.length) k) [])]) (fun _ => D) (fun k => k ≤ (2 ^ p.claims.length)) (fun k => (2 ^ p.claims.length) - k) 0 (by omega) (fun a w h => at_fr h ⟨rfl, rfl, rfl, trivial⟩) ?_
  intro k hk
  refine WC.seq ?_
  refine WC.ofFr [(3, _), (11, _), (12, _)] ⟨rfl, rfl, rfl, trivial⟩ ?_
  refine WC.region ?_
  refine WL.yd (Yd.lss rfl rfl) rfl ?_
  refine WL.nil ?_
  refine WP.thenC ?_
  refine WC.seq ?_
  refine WC.cond rfl (fun c13 => ?_) (fun c13 => ?_)
  · try simp only [zq1, zq2, zq3, zq4, zq5, zq6, zq7, zq8] at c13
    refine WC.skip ?_
    refine WP.thenC ?_
    refine WC.seq ?_
    refine WC.block ?_
    refine WC.seq ?_
    refine WC.ofFr [(3, _), (11, _), (12, _)] ⟨rfl, rfl, rfl, trivial⟩ ?_
    refine WC.region ?_
    refine WL.yd (Yd.move rfl) rfl ?_
    refine WL.yd (Yd.assign rfl) rfl ?_
    refine WL.nil ?_
    refine WP.thenC ?_
    refine WC.ofFr [(4, _), (3, _), (11, _), (12, _)] ⟨rfl, rfl, rfl, rfl, trivial⟩ ?_
    refine WC.region ?_
    refine WL.yd (Yd.move rfl) rfl ?_
    refine WL.yd (Yd.move rfl) rfl ?_
    refine WL.yd (Yd.move rfl) rfl ?_
    refine WL.yd (Yd.convNU Try.underlying3 Try.underlying99 rfl (by omega)) rfl ?_
    refine WL.yd (Yd.indexS Try.underlying112 Try.sizeOf99 rfl rfl (by (try dsimp only); omega) (by (try dsimp only); omega) (by first | exact rfl)) rfl ?_
    refine WL.so (SO.store 0 rfl Try.sizeOf99 rfl rfl rfl rfl (len_data (rl _ k) [] (by rw [rl_len]; omega)) (oneB_spec rfl)) rfl ?_
    rintro _ _ _ ⟨rfl, rfl, rfl⟩
    refine WL.nil ?_
    refine WP.blkNormal ?_
    refine WP.thenC ?_
    refine WC.ofFr [(3, _), (11, _), (12, _)] ⟨rfl, rfl, rfl, trivial⟩ ?_
    refine WC.region ?_
    refine WL.yd (Yd.addN rfl rfl (by (try dsimp only); omega)) rfl ?_
    refine WL.yd (Yd.move rfl) rfl ?_
    refine WL.nil ?_
    refine WP.again (k + 1) (by omega) (by omega) (fun aa ww h => ?_)
    have hs := splice_data (rl (2 ^ p.claims.length) k) [] k k (by rw [rl_len]; omega)
    rw [rl_set] at hs
    show At _ [(3, .slice (some ⟨b9, 0, none⟩) (2 ^ p.claims.length) (2 ^ p.claims.length)), (11, nt (2 ^ p.claims.length)), (12, nt (k + 1))] D [(b9, .cells (List.toArray ((rl (2 ^ p.claims.length) (k + 1)).map ut ++ [])) 99 (0, 0))] aa ww
    rw [← hs]
    exact at_fr h ⟨rfl, rfl, rfl, trivial⟩
  · try simp only [zq1, zq2, zq3, zq4, zq5, zq6, zq7, zq8] at c13
    refine WC.exit ?_
    refine WP.thenExit ?_
    refine WP.thenExit ?_
    refine WP.blkHit ?_
    refine WP.thenC ?_
    refine WC.seq ?_
    obtain rfl : k = (2 ^ p.claims.length) := by omega
    rw [rl_all]
    refine WC.ofFr [(3, _)] ⟨rfl, trivial⟩ ?_
    refine WC.region ?_
    refine WL.yd (Yd.move rfl) rfl ?_
    refine WL.yd (Yd.lenS rfl Try.underlying112 rfl) rfl ?_
    refine WL.so (SO.makeSlice (n := (2 ^ p.claims.length)) Try.underlying112 Try.sizeOf99 Try.typeInfo99 Try.zeroValue99 rfl rfl rfl (by omega) (by show 8 * (((2 ^ p.claims.length) : Nat) : Int) ≤ 2 ^ 48; omega)) rfl ?_
    rintro _ _ _ ⟨b23, hb23, rfl, rfl, rfl⟩
    refine WL.yd (Yd.assign rfl) rfl ?_
    refine WL.nil ?_
    refine WP.thenC ?_
    refine WC.seq ?_
    refine WC.ofFr [(5, _), (3, _)] ⟨rfl, rfl, trivial⟩ ?_
    refine WC.region ?_
    refine WL.yd (Yd.move rfl) rfl ?_
    refine WL.yd (Yd.move rfl) rfl ?_
    refine WL.so (SO.copy (k := 0) (cs := zeroL [.int .u64 0] ((2 ^ p.claims.length) * 1)) rfl Try.underlying112 Try.sizeOf99 rfl rfl rfl (ys := (List.range (2 ^ p.claims.length)).map ut) ⟨by simp, .inr ⟨b9, 0, (2 ^ p.claims.length), rfl, RdN.own (k := 1) (n := (2 ^ p.claims.length)) (cs := (List.range (2 ^ p.claims.length)).map ut ++ []) rfl (by unfold slc; rw [List.drop_zero, List.append_nil, List.take_of_length_le (by simp)])⟩⟩ (fun v hv => by obtain ⟨x, _, rfl⟩ := List.mem_map.1 hv; rfl) (by rw [zeroL_len]; simp)) rfl ?_
    rintro _ _ _ ⟨rfl, rfl⟩
    refine WL.nil ?_
    refine WP.thenC ?_
    refine WC.seq ?_
    refine WC.ofFr [(5, _)] ⟨rfl, trivial⟩ ?_
    refine WC.region ?_
    rw [splice_whole _ _ (by rw [zeroL_len]; simp)]
    rw [show (List.range (2 ^ p.claims.length)).map ut = (List.range (2 ^ p.claims.length)).map ut ++ [] from (List.append_nil _).symm]
    refine WL.yd (Yd.move rfl) rfl ?_
    refine WL.so (SO.alters (own := [(b9, datO (List.range (2 ^ p.claims.length)) [])]) (hpc := [(b23, datO (List.range (2 ^ p.claims.length)) [])]) (S1 := [b23]) (fun e he => (List.Perm.swap _ _ []).mem_iff.1 he) (fun h => (List.Perm.swap b9 b23 []).nodup_iff.1 h) (fun _ h => h) (fun _ h => h) (Enters.func Try.call105 rfl) (fun w1 hI => sort_g (List.range (2 ^ p.claims.length)) (setsL p.claims.length) [] b23 (2 ^ p.claims.length) (2 ^ p.claims.length) D w1 (range_ok h8) (by omega) (srt _ h8) hI)) rfl ?_
    rintro _ _ _ ⟨_, _, ⟨rfl, rfl, rfl⟩, rfl⟩
    refine WL.nil ?_
    refine WP.thenC ?_
    refine WC.seq ?_
    refine WC.ofFr [(5, _)] ⟨rfl, trivial⟩ ?_
    refine WC.region ?_
    refine WL.yd (Yd.move rfl) rfl ?_
    refine WL.yd (Yd.assign rfl) rfl ?_
    refine WL.nil ?_
    refine WP.thenC ?_
    refine WC.ret ?_
    refine WP.ret1 rfl rfl Try.results77 (RV.tmp rfl) (fun w1 hI => ⟨_, _, rfl, hI.keep, (hI.drop 1).freeze.imm, (DExt.refl _ _).add ((hI.drop 1).apart _ _ (List.mem_of_getElem? (i := 0) rfl)) hb23, b23, _, rfl, by have := SlL.ofBlock (f := utC) (m := 1) (D := D.add b23 (datO (setsL p.claims.length) [])) (b := b23) (t := 99) (fz := (0, 0)) (l := setsL p.claims.length) (rest := []) utC_len (by rw [flat_ut]; exact Imm.add_self _ _ _); rw [sets_len _ (by omega)] at this; exact this⟩)

end Go.Proofs.Ytkhmmefgllbobaa
namespace Go.Proofs.Ytkhmmefgllbobaa
open Go.W Go.Po
theorem FA115_0 : FieldAt Try.prog 115 0 0 := FieldAt.mk (t := 109) (off := 0) Try.underlying115 rfl Try.sizeOf109 (by decide)
def fstP (l : List Nat) (p : Nat → Bool) : Nat × Bool := match l.find? p with | some x => (x, true) | none => (0, false)
theorem fstP_hit {l : List Nat} {p : Nat → Bool} {k : Nat} (hk : k < l.length) (hb : ∀ i, i < k → p (gt l i) = false) (h : p (gt l k) = true) : fstP l p = (gt l k, true) := by
  have : l.find? p = some (gt l k) := by
    rw [List.find?_eq_some_iff_getElem]
    refine ⟨h, k, hk, ?_, fun j hj => ?_⟩
    · simp [gt, List.getD, hk]
    · have := hb j hj
      have hjl : j < l.length := by omega
      simp only [gt, List.getD, List.getElem?_eq_getElem hjl, Option.getD_some] at this
      simp [this]
  simp [fstP, this]
theorem fstP_no {l : List Nat} {p : Nat → Bool} (hb : ∀ i, i < l.length → p (gt l i) = false) : fstP l p = (0, false) := by
  have : l.find? p = none := by
    rw [List.find?_eq_none]
    intro x hx
    obtain ⟨i, hi, rfl⟩ := List.getElem_of_mem hx
    have := hb i hi
    simp only [gt, List.getD, List.getElem?_eq_getElem hi, Option.getD_some] at this
    simp [this]
  simp [fstP, this]
set_option maxRecDepth 100000 in
set_option maxHeartbeats 1000000 in
theorem first_g (l : List Nat) (a : Option Addr) (n c : Nat) (D : Imm) (w : World) (hS : SlL D 1 (l.map utC) a n) (hn : n ≤ 1000) (hH : Holds D w) (fi : FuncId) (cap : List Value) (hfi : ∀ args w, (callFunc fi args).run Try.prog w = .ok (.enter fi args) w) (p : Nat → Bool) (hF : ∀ w', Holds D w' → ∀ i, i < l.length → Gives Try.prog fi (ut (gt l i) :: cap) w' (.bool (p (gt l i)))) : Gives Try.prog 76 [.slice a n c, .agg #[.func (.func fi) #[] cap.toArray]] w (.tuple #[ut (fstP l p).1, .bool (fstP l p).2]) := by
  unfold Gives
  obtain rfl := hS.len'
  refine enter Try.func76 rfl 21 Try.ntmps76 (Nat.le_of_ble_eq_true rfl) (Inv.start hH) ?_
  refine WC.seq ?_
  refine WC.ofFr [(0, _), (1, _)] ⟨rfl, rfl, trivial⟩ ?_
  refine WC.region ?_
  refine WL.so (SO.box rfl rfl) rfl ?_
  rintro _ _ _ ⟨b3, hb3, rfl, rfl, rfl⟩ -- NEW
  refine WL.yd (Yd.assign rfl) rfl ?_
  refine WL.yd (Yd.assign rfl) rfl ?_
  refine WL.nil ?_
  refine WP.thenC ?_
  refine WC.seq ?_
  refine WC.seq ?_
  refine WC.ofFr [(5, _), (4, _), (3, _), (0, _)] ⟨rfl, rfl, rfl, rfl, trivial⟩ ?_
  refine WC.region ?_
  refine WL.yd (Yd.move rfl) rfl ?_
  refine WL.yd (Yd.lenS rfl Try.underlying112 rfl) rfl ?_
  refine WL.yd (Yd.move rfl) rfl ?_
  refine WL.nil ?_
  refine WP.thenC ?_
  refine WC.block ?_
  refine WC.loopF (fun k : Nat => [(3, pt b3), (4, .int .u64 0), (8, .slice a l.length c), (9, nt l.length), (10, nt k)]) (fun k => k ≤ l.length ∧ ∀ i, i < k → p (gt l i) = false) (fun k => l.length - k) 0 ⟨by omega, fun i hi => absurd hi (by omega)⟩ (by exact ⟨rfl, rfl, rfl, rfl, rfl, trivial⟩) ?_
  rintro k ⟨hk, hb⟩
  refine WC.seq ?_
  refine WC.ofFr [(3, _), (4, _), (8, _), (9, _), (10, _)] ⟨rfl, rfl, rfl, rfl, rfl, trivial⟩ ?_
  refine WC.region ?_
  refine WL.yd (Yd.lss rfl rfl) rfl ?_
  refine WL.nil ?_
  refine WP.thenC ?_
  refine WC.seq ?_
  refine WC.cond rfl (fun c11 => ?_) (fun c11 => ?_)
  · try simp only [zq1, zq2, zq3, zq4, zq5, zq6, zq7, zq8] at c11
    refine WC.skip ?_
    refine WP.thenC ?_
    refine WC.seq ?_
    refine WC.block ?_
    refine WC.seq ?_
    refine WC.ofFr [(3, _), (4, _), (8, _), (9, _), (10, _)] ⟨rfl, rfl, rfl, rfl, rfl, trivial⟩ ?_
    refine WC.region ?_
    refine WL.yd (Yd.indexS Try.underlying112 Try.sizeOf99 rfl rfl (by omega) (by omega) (by first | exact hS.addr k (by omega))) rfl ?_
    refine WL.yd (Yd.load1 Try.isAgg99 rfl (by first | exact Rd.own (k := 0) rfl rfl | exact ((hS.at k (by omega)).rd 0 rfl))) rfl ?_
    refine WL.yd (Yd.assign rfl) rfl ?_
    refine WL.nil ?_
    refine WP.thenC ?_
    refine WC.seq ?_
    refine WC.ofFr [(7, _), (3, _), (4, _), (8, _), (9, _), (10, _)] ⟨rfl, rfl, rfl, rfl, rfl, rfl, trivial⟩ ?_
    refine WC.region ?_
    refine WL.yd (Yd.fieldAddr FA115_0 rfl) rfl ?_
    refine WL.yd (Yd.load1 Try.isAgg109 rfl (by first | exact Rd.own (k := 0) rfl rfl | exact ((hS.at k (by omega)).rd 0 rfl))) rfl ?_
    refine WL.yd (Yd.move rfl) rfl ?_
    refine WL.so (SO.call (Enters.val hfi rfl rfl) (fun w hI => hF _ hI.imm k (by omega))) rfl ?_
    rintro _ _ _ ⟨rfl, rfl, rfl⟩
    refine WL.nil ?_
    refine WP.thenC ?_
    refine WC.cond rfl (fun c17 => ?_) (fun c17 => ?_)
    · try simp only [zq1, zq2, zq3, zq4, zq5, zq6, zq7, zq8] at c17
      refine WC.seq ?_
      refine WC.ofFr [(7, _), (3, _), (4, _), (8, _), (9, _), (10, _)] ⟨rfl, rfl, rfl, rfl, rfl, rfl, trivial⟩ ?_
      refine WC.region ?_
      refine WL.yd (Yd.move rfl) rfl ?_
      refine WL.yd (Yd.assign rfl) rfl ?_
      refine WL.yd (Yd.assign rfl) rfl ?_
      refine WL.nil ?_
      refine WP.thenC ?_
      refine WC.ret ?_
      refine WP.blkRet ?_
      refine WP.thenRet ?_
      refine WP.thenRet ?_
      refine WP.blkRet ?_
      refine WP.thenRet ?_
      refine WP.ret2 rfl rfl Try.results76 (RV.tmp rfl) (RV.tmp rfl) (fun w hI => ⟨by rw [fstP_hit (by omega) hb c17], hI.keep⟩)
    · try simp only [zq1, zq2, zq3, zq4, zq5, zq6, zq7, zq8] at c17
      refine WC.skip ?_
      refine WP.blkNormal ?_
      refine WP.thenC ?_
      refine WC.ofFr [(3, _), (4, _), (8, _), (9, _), (10, _)] ⟨rfl, rfl, rfl, rfl, rfl, trivial⟩ ?_
      refine WC.region ?_
      refine WL.yd (Yd.add rfl rfl (wr64 ⟨by omega, by omega⟩)) rfl ?_
      refine WL.yd (Yd.move rfl) rfl ?_
      refine WL.nil ?_
      exact WP.againF (k + 1) ⟨by omega, ext_round hb c17⟩ (by omega) ⟨rfl, rfl, rfl, rfl, rfl, trivial⟩ (fun _ h => h) (fun h => h)
  · try simp only [zq1, zq2, zq3, zq4, zq5, zq6, zq7, zq8] at c11
    refine WC.exit ?_
    refine WP.thenExit ?_
    refine WP.thenExit ?_
    refine WP.blkHit ?_
    refine WP.thenC ?_
    refine WC.seq ?_
    refine WC.ofFr [(4, _)] ⟨rfl, trivial⟩ ?_
    refine WC.region ?_
    refine WL.yd (Yd.move rfl) rfl ?_
    refine WL.yd (Yd.assign rfl) rfl ?_
    refine WL.yd (Yd.assign rfl) rfl ?_
    refine WL.nil ?_
    refine WP.thenC ?_
    refine WC.ret ?_
    refine WP.ret2 rfl rfl Try.results76 (RV.tmp rfl) (RV.tmp rfl) (fun w hI => ⟨by rw [fstP_no (fun i hi => hb i (by omega))]; rfl, hI.keep⟩)

def freeB (p : Post) (s : Nat) : Bool := farOk p (selA p (everyS p - s))
def clashB (p : Post) (s : Nat) : Bool := !farOk p (selA p s)

set_option maxRecDepth 100000 in
set_option maxHeartbeats 1000000 in
theorem clash2_g (p : Post) (a1 : Option Addr) (n1 c1 : Nat) (a2 : Option Addr) (n2 c2 : Nat) (q : Nat) (D : Imm) (w : World) (hB : BeachAt D q p (.slice a1 n1 c1) (.slice a2 n2 c2)) (hR : PostR D p a1 n1 a2 n2) (hH : Holds D w) (hv : postB p = true) (b1 s : Nat) (h1 : D b1 = some (.cells (List.toArray [pt q]) 74 (0, 0))) : Gives Try.prog 84 [ut s, pt b1] w (.bool (clashB p s)) := by
  unfold Gives
  obtain rfl := hR.bath.len'
  obtain rfl := hR.claim.len'
  have hl1 := hR.len1
  have hl2 := hR.len2
  refine enter Try.func84 rfl 8 Try.ntmps84 (Nat.le_of_ble_eq_true rfl) (Inv.start hH) ?_
  refine WC.seq ?_
  refine WC.ofFr [(0, _), (1, _)] ⟨rfl, rfl, trivial⟩ ?_
  refine WC.region ?_
  refine WL.yd (Yd.assign rfl) rfl ?_
  refine WL.nil ?_
  refine WP.thenC ?_
  refine WC.seq ?_
  refine WC.ofFr [(3, _), (0, _), (1, _)] ⟨rfl, rfl, rfl, trivial⟩ ?_
  refine WC.region ?_
  refine WL.yd (Yd.load1 Try.isAgg74 rfl (by first | exact (Rd.imm h1 rfl))) rfl ?_
  refine WL.yd (Yd.move rfl) rfl ?_
  refine WL.so (SO.callP Try.call75 rfl (fun w hI => can_g p a1 _ c1 a2 _ c2 q D _ hB hR hI.imm hv s)) rfl ?_
  rintro _ _ _ ⟨rfl, rfl, rfl⟩
  refine WL.yd (Yd.not rfl) rfl ?_
  refine WL.yd (Yd.assign rfl) rfl ?_
  refine WL.nil ?_
  refine WP.thenC ?_
  refine WC.ret ?_
  refine WP.ret1 rfl rfl Try.results84 (RV.tmp rfl) (fun w hI => ⟨rfl, hI.keep⟩)

set_option maxRecDepth 100000 in
set_option maxHeartbeats 1000000 in
theorem false2_g (p : Post) (a1 : Option Addr) (n1 c1 : Nat) (a2 : Option Addr) (n2 c2 : Nat) (q : Nat) (D : Imm) (w : World) (hB : BeachAt D q p (.slice a1 n1 c1) (.slice a2 n2 c2)) (hR : PostR D p a1 n1 a2 n2) (hH : Holds D w) (hv : postB p = true) (b1 b2 s : Nat) (hs : s < 2 ^ p.claims.length) (h1 : D b1 = some (.cells (List.toArray [.func (.func 75) #[] #[]]) 108 (0, 0))) (h2 : D b2 = some (.cells (List.toArray [pt q]) 74 (0, 0))) : Gives Try.prog 78 [ut s, pt b1, pt b2] w (.bool (freeB p s)) := by
  unfold Gives
  obtain rfl := hR.bath.len'
  obtain rfl := hR.claim.len'
  have hl1 := hR.len1
  have hl2 := hR.len2
  have h8 := (post_num hv).2.2.1
  refine enter Try.func78 rfl 12 Try.ntmps78 (Nat.le_of_ble_eq_true rfl) (Inv.start hH) ?_
  refine WC.seq ?_
  refine WC.ofFr [(0, _), (1, _), (2, _)] ⟨rfl, rfl, rfl, trivial⟩ ?_
  refine WC.region ?_
  refine WL.yd (Yd.assign rfl) rfl ?_
  refine WL.nil ?_
  refine WP.thenC ?_
  refine WC.seq ?_
  refine WC.ofFr [(4, _), (0, _), (1, _), (2, _)] ⟨rfl, rfl, rfl, rfl, trivial⟩ ?_
  refine WC.tail 6 [0, 1, 2, 3, 4, 5] rfl (by kernel_rfl) (by kernel_rfl)  ?_
  refine WQ.q rfl (Yd.qt (Yd.load1 Try.isAgg108 rfl (by first | exact (Rd.imm h1 rfl) | exact (Rd.imm h2 rfl)))) rfl ?_
  refine WQ.q rfl (Yd.qt (Yd.load1 Try.isAgg74 rfl (by first | exact (Rd.imm h1 rfl) | exact (Rd.imm h2 rfl)))) rfl ?_
  refine WQ.q rfl (Yd.qt (Yd.load1 Try.isAgg74 rfl (by first | exact (Rd.imm h1 rfl) | exact (Rd.imm h2 rfl)))) rfl ?_
  refine WQ.q rfl (Qt.callP Try.call64 rfl (fun w hI => every_g p a1 _ c1 a2 _ c2 q D _ hB hR hI.imm hv)) rfl ?_
  refine WQ.q rfl (Yd.qt (Yd.move rfl)) rfl ?_
  refine WQ.q rfl (Yd.qt (Yd.restU (n := p.claims.length) h8 hs rfl rfl)) rfl ?_
  refine WQ.tail ?_
  refine WL.so (SO.call (Enters.val Try.call75 rfl rfl) (fun w hI => can_g p a1 _ c1 a2 _ c2 q D _ hB hR hI.imm hv (everyS p - s))) rfl ?_
  rintro _ _ _ ⟨rfl, rfl, rfl⟩
  refine WL.yd (Yd.assign rfl) rfl ?_
  refine WL.nil ?_
  refine WP.thenC ?_
  refine WC.ret ?_
  refine WP.ret1 rfl rfl Try.results78 (RV.tmp rfl) (fun w hI => ⟨rfl, hI.keep⟩)

end Go.Proofs.Ytkhmmefgllbobaa
namespace Go.Proofs.Ytkhmmefgllbobaa
open Go.W Go.Po
theorem SA115 : StructAt Try.prog 115 [.nilFunc] [(0, 1)] := ⟨⟨_, Try.zeroValue115, rfl⟩, _, Try.underlying115, fun w => by simp [Try.sizeOf109]⟩
theorem sets_lt : ∀ k, k < 9 → ∀ x ∈ setsL k, x < 2 ^ k := fun k _ x hx => by
  simp only [setsL, List.mem_flatMap, List.mem_filter, List.mem_range] at hx
  obtain ⟨c, _, h, _⟩ := hx
  exact h
theorem fstP_lt {k : Nat} (hk : k < 9) (f : Nat → Bool) : (fstP (setsL k) f).1 < 2 ^ k := by
  unfold fstP
  cases h : (setsL k).find? f with
  | none => exact Nat.two_pow_pos k
  | some x => exact sets_lt k hk x (List.mem_of_find?_eq_some h)
def FalseOut (p : Post) : Int × Int × Int := if postB p = false then (0, 0, 1) else (((pop (fstP (setsL p.claims.length) (freeB p)).1 : Nat) : Int), (((fstP (setsL p.claims.length) (freeB p)).1 : Nat) : Int), 0)
def ClashOut (p : Post) : Int × Int := if postB p = false then (0, 1) else if okA p = true then (0, 4) else ((((fstP (setsL p.claims.length) (clashB p)).1 : Nat) : Int), 0)

set_option maxRecDepth 100000 in
set_option maxHeartbeats 1000000 in
theorem False_1 (p : Post) (a1 : Option Addr) (n1 c1 : Nat) (a2 : Option Addr) (n2 c2 : Nat) (D : Imm) (w : World) (hR : PostR D p a1 n1 a2 n2) (hH : Holds D w) (hv : postB p = false) : Gives Try.prog 27 [.agg #[it p.post.lo, it p.post.hi, .slice a1 n1 c1, .slice a2 n2 c2]] w (.tuple #[it (FalseOut p).1, it (FalseOut p).2.1, it (FalseOut p).2.2]) := by
  unfold Gives
  obtain rfl := hR.bath.len'
  obtain rfl := hR.claim.len'
  have hl1 := hR.len1
  have hl2 := hR.len2
  have hO : FalseOut p = (0, 0, 1) := by unfold FalseOut; rw [if_pos hv]
  refine enterD Try.func27 rfl 24 Try.ntmps27 (Nat.le_of_ble_eq_true rfl) (Inv.start hH) ?_
  refine WC.seq ?_
  refine WC.ofFr [(0, _)] ⟨rfl, trivial⟩ ?_
  refine WC.region ?_
  refine WL.so (SO.box rfl rfl) rfl ?_
  rintro _ _ _ ⟨b1, hb1, rfl, rfl, rfl⟩ -- NEW
  refine WL.yd (Yd.assign rfl) rfl ?_
  refine WL.yd (Yd.assign rfl) rfl ?_
  refine WL.so (SO.alloc Try.zeroValue30 rfl) rfl ?_
  rintro _ _ _ ⟨b4, hb4, rfl, rfl, rfl⟩ -- NEW
  refine WL.nil ?_
  refine WP.thenC ?_
  refine WC.seq ?_
  refine WC.ofFr [(4, _), (3, _), (2, _), (1, _)] ⟨rfl, rfl, rfl, rfl, trivial⟩ ?_
  refine WC.region ?_
  refine WL.yd (Yd.func rfl rfl) rfl ?_
  refine WL.defer rfl ?_
  refine WL.nil ?_
  refine WP.thenC ?_
  refine WC.seq ?_
  refine WC.ofFr [(4, _), (3, _), (2, _), (1, _)] ⟨rfl, rfl, rfl, rfl, trivial⟩ ?_
  refine WC.region ?_
  refine WL.yd (Yd.loadN Try.isAgg27 Try.sizeOf27 rfl (vs := [_, _, _, _]) rfl (by first | exact RdN.own (k := 0) (n := 4) rfl rfl | exact RdN.own (k := 1) (n := 4) rfl rfl)) rfl ?_
  refine WL.no (SO.fail (Enters.func Try.call49 rfl) (fun w hI => open_1 p a1 _ c1 a2 _ c2 D _ (hR.ext (DExt.refl w D)) hI.imm ([] : List Int) _ _ _ (ints_nil _) (by omega) hv) ?_)
  refine WP.thenPanic ?_
  refine WP.panicD (k := 0) [_, _, _] [_, _, _] rfl Try.call74 rfl (fun w hI => catch74 _ _ _ _ _ (hI.own _ _ (List.mem_of_getElem? (i := 0) rfl))) Try.results27 ⟨(RV.tmp rfl), (RV.tmp rfl), (RV.cell1 Try.isAgg30 rfl (by first | exact Rd.own (k := 0) rfl rfl | exact Rd.own (k := 1) rfl rfl)), trivial⟩ (fun w hI => ⟨congrArg Ending.returned (by rw [hO]; rfl), hI.keep⟩)

set_option maxRecDepth 100000 in
set_option maxHeartbeats 1000000 in
theorem False_ok (p : Post) (a1 : Option Addr) (n1 c1 : Nat) (a2 : Option Addr) (n2 c2 : Nat) (D : Imm) (w : World) (hR : PostR D p a1 n1 a2 n2) (hH : Holds D w) (hv : postB p = true) : Gives Try.prog 27 [.agg #[it p.post.lo, it p.post.hi, .slice a1 n1 c1, .slice a2 n2 c2]] w (.tuple #[it (FalseOut p).1, it (FalseOut p).2.1, it (FalseOut p).2.2]) := by
  unfold Gives
  obtain rfl := hR.bath.len'
  obtain rfl := hR.claim.len'
  have hl1 := hR.len1
  have hl2 := hR.len2
  have hw : ([] : List Int).all (whoP p) = true := rfl
  have h8 := (post_num hv).2.2.1
  have h25 : 2 ^ p.claims.length ≤ 2 ^ 8 := Nat.pow_le_pow_right (by omega) h8
  have hlt := fstP_lt (k := p.claims.length) (by omega) (freeB p)
  have hO : FalseOut p = (((pop (fstP (setsL p.claims.length) (freeB p)).1 : Nat) : Int), (((fstP (setsL p.claims.length) (freeB p)).1 : Nat) : Int), 0) := by unfold FalseOut; rw [if_neg (by rw [hv]; simp)]
  refine enterD Try.func27 rfl 24 Try.ntmps27 (Nat.le_of_ble_eq_true rfl) (Inv.start hH) ?_
  refine WC.seq ?_
  refine WC.ofFr [(0, _)] ⟨rfl, trivial⟩ ?_
  refine WC.region ?_
  refine WL.so (SO.box rfl rfl) rfl ?_
  rintro _ _ _ ⟨b1, hb1, rfl, rfl, rfl⟩ -- NEW
  refine WL.yd (Yd.assign rfl) rfl ?_
  refine WL.yd (Yd.assign rfl) rfl ?_
  refine WL.so (SO.alloc Try.zeroValue30 rfl) rfl ?_
  rintro _ _ _ ⟨b4, hb4, rfl, rfl, rfl⟩ -- NEW
  refine WL.nil ?_
  refine WP.thenC ?_
  refine WC.seq ?_
  refine WC.ofFr [(4, _), (3, _), (2, _), (1, _)] ⟨rfl, rfl, rfl, rfl, trivial⟩ ?_
  refine WC.region ?_
  refine WL.yd (Yd.func rfl rfl) rfl ?_
  refine WL.defer rfl ?_
  refine WL.nil ?_
  refine WP.thenC ?_
  refine WC.seq ?_
  refine WC.ofFr [(4, _), (3, _), (2, _), (1, _)] ⟨rfl, rfl, rfl, rfl, trivial⟩ ?_
  refine WC.region ?_
  refine WL.yd (Yd.loadN Try.isAgg27 Try.sizeOf27 rfl (vs := [_, _, _, _]) rfl (by first | exact RdN.own (k := 0) (n := 4) rfl rfl | exact RdN.own (k := 1) (n := 4) rfl rfl)) rfl ?_
  refine WL.so (SO.makes (Enters.func Try.call49 rfl) (fun w hI => open_ok p a1 _ c1 a2 _ c2 D _ (hR.ext (DExt.refl w D)) hI.imm ([] : List Int) _ _ _ (ints_nil _) (by omega) hv hw)) rfl ?_
  rintro _ D2 _ ⟨hX2, ⟨bq, rfl, hB⟩, rfl⟩
  have hX2 := ((DExt.refl w D)).trans hX2 (Nat.le_refl _)
  have hR2 := hR.ext hX2
  refine WL.so (SO.alloc Try.zeroValue74 rfl) rfl ?_
  rintro _ _ _ ⟨b5, hb5, rfl, rfl, rfl⟩ -- NEW
  refine WL.so (SO.store 0 rfl Try.sizeOf74 rfl rfl rfl rfl (Nat.le_of_ble_eq_true rfl) (oneB_spec rfl)) rfl ?_
  rintro _ _ _ ⟨rfl, rfl, rfl⟩
  refine WL.nil ?_
  refine WP.thenC ?_
  refine WC.seq ?_
  refine WC.ofFr [(5, _), (4, _), (3, _), (2, _)] ⟨rfl, rfl, rfl, rfl, trivial⟩ ?_
  refine WC.region ?_
  refine WL.so (SO.alloc Try.zeroValue108 rfl) rfl ?_
  rintro _ _ _ ⟨b6, hb6, rfl, rfl, rfl⟩ -- NEW
  refine WL.so (SO.store 0 rfl Try.sizeOf108 rfl rfl rfl rfl (Nat.le_of_ble_eq_true rfl) (oneB_spec rfl)) rfl ?_
  rintro _ _ _ ⟨rfl, rfl, rfl⟩
  refine WL.nil ?_
  refine WP.thenC ?_
  refine WC.seq ?_
  refine WC.freezeK 0 rfl (fun hn6 => ?_)
  refine WC.freezeK 0 rfl (fun hn5 => ?_)
  have hX3 : DExt w D2 ((D2.add b6 (.cells (List.toArray [.func (.func 75) #[] #[]]) 108 (0, 0))).add b5 (.cells (List.toArray [pt bq]) 74 (0, 0))) := ((DExt.refl w D2).add hn6 hb6).add hn5 hb5
  have h5b : ((D2.add b6 (.cells (List.toArray [.func (.func 75) #[] #[]]) 108 (0, 0))).add b5 (.cells (List.toArray [pt bq]) 74 (0, 0))) b5 = some (.cells (List.toArray [pt bq]) 74 (0, 0)) := Imm.add_self _ _ _
  have h6 : ((D2.add b6 (.cells (List.toArray [.func (.func 75) #[] #[]]) 108 (0, 0))).add b5 (.cells (List.toArray [pt bq]) 74 (0, 0))) b6 = some (.cells (List.toArray [.func (.func 75) #[] #[]]) 108 (0, 0)) := ((DExt.refl w _).add hn5 hb5).old _ _ (Imm.add_self _ _ _)
  replace hB := hB.ext hX3
  replace hR2 := hR2.ext hX3
  have hEE := hX3
  refine (?_ : WC Try.prog _ _ ((D2.add b6 (.cells (List.toArray [.func (.func 75) #[] #[]]) 108 (0, 0))).add b5 (.cells (List.toArray [pt bq]) 74 (0, 0))) [_, _] _ _)
  generalize ((D2.add b6 (.cells (List.toArray [.func (.func 75) #[] #[]]) 108 (0, 0))).add b5 (.cells (List.toArray [pt bq]) 74 (0, 0))) = D3 at hEE h5b h6 hB hR2 ⊢
  refine WC.ofFr [(6, _), (5, _), (4, _), (3, _), (2, _)] ⟨rfl, rfl, rfl, rfl, rfl, trivial⟩ ?_
  refine WC.region ?_
  refine WL.yd (Yd.load1 Try.isAgg74 rfl (by first | exact Rd.own (k := 0) rfl rfl | exact Rd.own (k := 1) rfl rfl | exact (Rd.imm h5b rfl))) rfl ?_
  refine WL.so (SO.makes (Enters.func Try.call77 rfl) (fun w hI => sizes_g p a1 _ c1 a2 _ c2 bq D3 _ hB hR2 hI.imm hv)) rfl ?_
  rintro _ D5 _ ⟨hX5, ⟨bz, cz, rfl, hSz⟩, rfl⟩
  replace hB := hB.ext hX5
  replace hR2 := hR2.ext hX5
  refine WL.yd (Yd.func rfl rfl) rfl ?_
  refine WL.yd (Yd.build SA115 rfl (cs := [_]) rfl) rfl ?_
  refine WL.so (SO.callP Try.call76 rfl (fun w hI => first_g (setsL p.claims.length) _ _ cz D5 _ hSz (by omega) hI.imm 78 [pt b6, pt b5] Try.call78 (freeB p) (fun w1 hH1 i hi => false2_g p a1 _ c1 a2 _ c2 bq D5 w1 hB hR2 hH1 hv b6 b5 _ (sets_lt _ (by omega) _ (gt_mem hi)) (hX5.old _ _ h6) (hX5.old _ _ h5b)))) rfl ?_
  rintro _ _ _ ⟨rfl, rfl, rfl⟩
  refine WL.yd (Yd.move rfl) rfl ?_
  refine WL.yd (Yd.extract rfl rfl) rfl ?_
  refine WL.yd (Yd.extract rfl rfl) rfl ?_
  refine WL.yd (Yd.assign rfl) rfl ?_
  refine WL.yd (Yd.assign rfl) rfl ?_
  refine WL.nil ?_
  refine WP.thenC ?_
  refine WC.seq ?_
  refine WC.ofFr [(7, _), (4, _), (3, _), (2, _)] ⟨rfl, rfl, rfl, rfl, trivial⟩ ?_
  refine WC.region ?_
  refine WL.yd (Yd.move rfl) rfl ?_
  refine WL.so (SO.callP Try.call79 rfl (fun w hI => ones_g (fstP (setsL p.claims.length) (freeB p)).1 (by omega) _)) rfl ?_
  rintro _ _ _ ⟨rfl, rfl, rfl⟩
  refine WL.yd (Yd.move rfl) rfl ?_
  refine WL.yd (Yd.convUN Try.underlying99 Try.underlying3 rfl (by omega)) rfl ?_
  refine WL.yd (Yd.assign rfl) rfl ?_
  refine WL.yd (Yd.assign rfl) rfl ?_
  refine WL.so (SO.store 0 rfl Try.sizeOf30 rfl rfl rfl rfl (Nat.le_of_ble_eq_true rfl) (oneB_spec rfl)) rfl ?_
  rintro _ _ _ ⟨rfl, rfl, rfl⟩
  refine WL.nil ?_
  refine WP.thenC ?_
  refine WC.ret ?_
  refine WP.endD [_, _, _] [_, _, _] rfl rfl Try.call74 (fun w hI => idle74 _ _) Try.results27 ⟨(RV.tmp rfl), (RV.tmp rfl), (RV.cell1 Try.isAgg30 rfl (by first | exact Rd.own (k := 0) rfl rfl | exact Rd.own (k := 1) rfl rfl | exact (Rd.imm h5b rfl))), trivial⟩ (fun w hI => ⟨congrArg Ending.returned (by rw [hO]; rfl), hI.keep⟩)

theorem False_g (p : Post) (a1 : Option Addr) (n1 c1 : Nat) (a2 : Option Addr) (n2 c2 : Nat) (D : Imm) (w : World) (hR : PostR D p a1 n1 a2 n2) (hH : Holds D w) : Gives Try.prog 27 [.agg #[it p.post.lo, it p.post.hi, .slice a1 n1 c1, .slice a2 n2 c2]] w (.tuple #[it (FalseOut p).1, it (FalseOut p).2.1, it (FalseOut p).2.2]) := by
  cases hv : postB p with
  | false => exact False_1 p a1 n1 c1 a2 n2 c2 D w hR hH hv
  | true => exact False_ok p a1 n1 c1 a2 n2 c2 D w hR hH hv

end Go.Proofs.Ytkhmmefgllbobaa
namespace Go.Proofs.Ytkhmmefgllbobaa
open Go.W Go.Po

set_option maxRecDepth 100000 in
set_option maxHeartbeats 1000000 in
theorem Clash_1 (p : Post) (a1 : Option Addr) (n1 c1 : Nat) (a2 : Option Addr) (n2 c2 : Nat) (D : Imm) (w : World) (hR : PostR D p a1 n1 a2 n2) (hH : Holds D w) (hv : postB p = false) : Gives Try.prog 29 [.agg #[it p.post.lo, it p.post.hi, .slice a1 n1 c1, .slice a2 n2 c2]] w (.tuple #[it (ClashOut p).1, it (ClashOut p).2]) := by
  unfold Gives
  obtain rfl := hR.bath.len'
  obtain rfl := hR.claim.len'
  have hl1 := hR.len1
  have hl2 := hR.len2
  have hO : ClashOut p = (0, 1) := by unfold ClashOut; rw [if_pos hv]
  refine enterD Try.func29 rfl 26 Try.ntmps29 (Nat.le_of_ble_eq_true rfl) (Inv.start hH) ?_
  refine WC.seq ?_
  refine WC.ofFr [(0, _)] ⟨rfl, trivial⟩ ?_
  refine WC.region ?_
  refine WL.so (SO.box rfl rfl) rfl ?_
  rintro _ _ _ ⟨b1, hb1, rfl, rfl, rfl⟩ -- NEW
  refine WL.yd (Yd.assign rfl) rfl ?_
  refine WL.so (SO.alloc Try.zeroValue30 rfl) rfl ?_
  rintro _ _ _ ⟨b3, hb3, rfl, rfl, rfl⟩ -- NEW
  refine WL.nil ?_
  refine WP.thenC ?_
  refine WC.seq ?_
  refine WC.ofFr [(3, _), (2, _), (1, _)] ⟨rfl, rfl, rfl, trivial⟩ ?_
  refine WC.region ?_
  refine WL.yd (Yd.func rfl rfl) rfl ?_
  refine WL.defer rfl ?_
  refine WL.nil ?_
  refine WP.thenC ?_
  refine WC.seq ?_
  refine WC.ofFr [(3, _), (2, _), (1, _)] ⟨rfl, rfl, rfl, trivial⟩ ?_
  refine WC.region ?_
  refine WL.yd (Yd.loadN Try.isAgg27 Try.sizeOf27 rfl (vs := [_, _, _, _]) rfl (by first | exact RdN.own (k := 0) (n := 4) rfl rfl | exact RdN.own (k := 1) (n := 4) rfl rfl)) rfl ?_
  refine WL.no (SO.fail (Enters.func Try.call49 rfl) (fun w hI => open_1 p a1 _ c1 a2 _ c2 D _ (hR.ext (DExt.refl w D)) hI.imm ([] : List Int) _ _ _ (ints_nil _) (by omega) hv) ?_)
  refine WP.thenPanic ?_
  refine WP.panicD (k := 0) [_, _] [_, _] rfl Try.call82 rfl (fun w hI => catch82 _ _ _ _ _ (hI.own _ _ (List.mem_of_getElem? (i := 0) rfl))) Try.results29 ⟨(RV.tmp rfl), (RV.cell1 Try.isAgg30 rfl (by first | exact Rd.own (k := 0) rfl rfl | exact Rd.own (k := 1) rfl rfl)), trivial⟩ (fun w hI => ⟨congrArg Ending.returned (by rw [hO]; rfl), hI.keep⟩)

set_option maxRecDepth 100000 in
set_option maxHeartbeats 1000000 in
theorem Clash_4 (p : Post) (a1 : Option Addr) (n1 c1 : Nat) (a2 : Option Addr) (n2 c2 : Nat) (D : Imm) (w : World) (hR : PostR D p a1 n1 a2 n2) (hH : Holds D w) (hv : postB p = true) (hok : okA p = true) : Gives Try.prog 29 [.agg #[it p.post.lo, it p.post.hi, .slice a1 n1 c1, .slice a2 n2 c2]] w (.tuple #[it (ClashOut p).1, it (ClashOut p).2]) := by
  unfold Gives
  obtain rfl := hR.bath.len'
  obtain rfl := hR.claim.len'
  have hl1 := hR.len1
  have hl2 := hR.len2
  have hw : ([] : List Int).all (whoP p) = true := rfl
  have h8 := (post_num hv).2.2.1
  have h25 : 2 ^ p.claims.length ≤ 2 ^ 8 := Nat.pow_le_pow_right (by omega) h8
  have hlt := fstP_lt (k := p.claims.length) (by omega) (clashB p)
  have hO : ClashOut p = (0, 4) := by unfold ClashOut; rw [if_neg (by rw [hv]; simp), if_pos hok]
  refine enterD Try.func29 rfl 26 Try.ntmps29 (Nat.le_of_ble_eq_true rfl) (Inv.start hH) ?_
  refine WC.seq ?_
  refine WC.ofFr [(0, _)] ⟨rfl, trivial⟩ ?_
  refine WC.region ?_
  refine WL.so (SO.box rfl rfl) rfl ?_
  rintro _ _ _ ⟨b1, hb1, rfl, rfl, rfl⟩ -- NEW
  refine WL.yd (Yd.assign rfl) rfl ?_
  refine WL.so (SO.alloc Try.zeroValue30 rfl) rfl ?_
  rintro _ _ _ ⟨b3, hb3, rfl, rfl, rfl⟩ -- NEW
  refine WL.nil ?_
  refine WP.thenC ?_
  refine WC.seq ?_
  refine WC.ofFr [(3, _), (2, _), (1, _)] ⟨rfl, rfl, rfl, trivial⟩ ?_
  refine WC.region ?_
  refine WL.yd (Yd.func rfl rfl) rfl ?_
  refine WL.defer rfl ?_
  refine WL.nil ?_
  refine WP.thenC ?_
  refine WC.seq ?_
  refine WC.ofFr [(3, _), (2, _), (1, _)] ⟨rfl, rfl, rfl, trivial⟩ ?_
  refine WC.region ?_
  refine WL.yd (Yd.loadN Try.isAgg27 Try.sizeOf27 rfl (vs := [_, _, _, _]) rfl (by first | exact RdN.own (k := 0) (n := 4) rfl rfl | exact RdN.own (k := 1) (n := 4) rfl rfl)) rfl ?_
  refine WL.so (SO.makes (Enters.func Try.call49 rfl) (fun w hI => open_ok p a1 _ c1 a2 _ c2 D _ (hR.ext (DExt.refl w D)) hI.imm ([] : List Int) _ _ _ (ints_nil _) (by omega) hv hw)) rfl ?_
  rintro _ D2 _ ⟨hX2, ⟨bq, rfl, hB⟩, rfl⟩
  have hX2 := ((DExt.refl w D)).trans hX2 (Nat.le_refl _)
  have hR2 := hR.ext hX2
  refine WL.so (SO.alloc Try.zeroValue74 rfl) rfl ?_
  rintro _ _ _ ⟨b4, hb4, rfl, rfl, rfl⟩ -- NEW
  refine WL.so (SO.store 0 rfl Try.sizeOf74 rfl rfl rfl rfl (Nat.le_of_ble_eq_true rfl) (oneB_spec rfl)) rfl ?_
  rintro _ _ _ ⟨rfl, rfl, rfl⟩
  refine WL.nil ?_
  refine WP.thenC ?_
  refine WC.seq ?_
  refine WC.freezeK 0 rfl (fun hn4 => ?_)
  have hX3 : DExt w D2 (D2.add b4 (.cells (List.toArray [pt bq]) 74 (0, 0))) := (DExt.refl w D2).add hn4 hb4
  have h4 : (D2.add b4 (.cells (List.toArray [pt bq]) 74 (0, 0))) b4 = some (.cells (List.toArray [pt bq]) 74 (0, 0)) := Imm.add_self _ _ _
  replace hB := hB.ext hX3
  replace hR2 := hR2.ext hX3
  refine (?_ : WC Try.prog _ _ (D2.add b4 (.cells (List.toArray [pt bq]) 74 (0, 0))) [_, _] _ _)
  generalize D2.add b4 (.cells (List.toArray [pt bq]) 74 (0, 0)) = D3 at hX3 h4 hB hR2 ⊢
  refine WC.ofFr [(4, _), (3, _), (2, _)] ⟨rfl, rfl, rfl, trivial⟩ ?_
  refine WC.tail 3 [0, 1, 2] rfl (by kernel_rfl) (by kernel_rfl)  ?_
  refine WQ.q rfl (Yd.qt (Yd.load1 Try.isAgg74 rfl (by first | exact Rd.own (k := 0) rfl rfl | exact Rd.own (k := 1) rfl rfl | exact (Rd.imm h4 rfl)))) rfl ?_
  refine WQ.q rfl (Yd.qt (Yd.load1 Try.isAgg74 rfl (by first | exact Rd.own (k := 0) rfl rfl | exact Rd.own (k := 1) rfl rfl | exact (Rd.imm h4 rfl)))) rfl ?_
  refine WQ.q rfl (Qt.callP Try.call64 rfl (fun w hI => every_g p a1 _ c1 a2 _ c2 bq D3 _ hB hR2 hI.imm hv)) rfl ?_
  refine WQ.tail ?_
  refine WL.so (SO.callP Try.call75 rfl (fun w hI => can_g p a1 _ c1 a2 _ c2 bq D3 _ hB hR2 hI.imm hv (everyS p))) rfl ?_
  rintro _ _ _ ⟨rfl, rfl, rfl⟩
  refine WL.know 13 (.bool true) rfl (congrArg Value.bool (show farOk p (selA p (everyS p)) = true from hok)) ?_
  refine WL.yd (Yd.not rfl) rfl ?_
  refine WL.no (SO.fail (Enters.func Try.call83 rfl) (fun w hI => must_no _ _) ?_)
  refine WP.thenPanic ?_
  refine WP.panicD (k := 0) [_, _] [_, _] rfl Try.call82 rfl (fun w hI => catch82 _ _ _ _ _ (hI.own _ _ (List.mem_of_getElem? (i := 0) rfl))) Try.results29 ⟨(RV.tmp rfl), (RV.cell1 Try.isAgg30 rfl (by first | exact Rd.own (k := 0) rfl rfl | exact Rd.own (k := 1) rfl rfl | exact (Rd.imm h4 rfl))), trivial⟩ (fun w hI => ⟨congrArg Ending.returned (by rw [hO]; rfl), hI.keep⟩)

set_option maxRecDepth 100000 in
set_option maxHeartbeats 1000000 in
theorem Clash_ok (p : Post) (a1 : Option Addr) (n1 c1 : Nat) (a2 : Option Addr) (n2 c2 : Nat) (D : Imm) (w : World) (hR : PostR D p a1 n1 a2 n2) (hH : Holds D w) (hv : postB p = true) (hok : okA p = false) : Gives Try.prog 29 [.agg #[it p.post.lo, it p.post.hi, .slice a1 n1 c1, .slice a2 n2 c2]] w (.tuple #[it (ClashOut p).1, it (ClashOut p).2]) := by
  unfold Gives
  obtain rfl := hR.bath.len'
  obtain rfl := hR.claim.len'
  have hl1 := hR.len1
  have hl2 := hR.len2
  have hw : ([] : List Int).all (whoP p) = true := rfl
  have h8 := (post_num hv).2.2.1
  have h25 : 2 ^ p.claims.length ≤ 2 ^ 8 := Nat.pow_le_pow_right (by omega) h8
  have hlt := fstP_lt (k := p.claims.length) (by omega) (clashB p)
  have hO : ClashOut p = ((((fstP (setsL p.claims.length) (clashB p)).1 : Nat) : Int), 0) := by unfold ClashOut; rw [if_neg (by rw [hv]; simp), if_neg (by rw [hok]; simp)]
  refine enterD Try.func29 rfl 26 Try.ntmps29 (Nat.le_of_ble_eq_true rfl) (Inv.start hH) ?_
  refine WC.seq ?_
  refine WC.ofFr [(0, _)] ⟨rfl, trivial⟩ ?_
  refine WC.region ?_
  refine WL.so (SO.box rfl rfl) rfl ?_
  rintro _ _ _ ⟨b1, hb1, rfl, rfl, rfl⟩ -- NEW
  refine WL.yd (Yd.assign rfl) rfl ?_
  refine WL.so (SO.alloc Try.zeroValue30 rfl) rfl ?_
  rintro _ _ _ ⟨b3, hb3, rfl, rfl, rfl⟩ -- NEW
  refine WL.nil ?_
  refine WP.thenC ?_
  refine WC.seq ?_
  refine WC.ofFr [(3, _), (2, _), (1, _)] ⟨rfl, rfl, rfl, trivial⟩ ?_
  refine WC.region ?_
  refine WL.yd (Yd.func rfl rfl) rfl ?_
  refine WL.defer rfl ?_
  refine WL.nil ?_
  refine WP.thenC ?_
  refine WC.seq ?_
  refine WC.ofFr [(3, _), (2, _), (1, _)] ⟨rfl, rfl, rfl, trivial⟩ ?_
  refine WC.region ?_
  refine WL.yd (Yd.loadN Try.isAgg27 Try.sizeOf27 rfl (vs := [_, _, _, _]) rfl (by first | exact RdN.own (k := 0) (n := 4) rfl rfl | exact RdN.own (k := 1) (n := 4) rfl rfl)) rfl ?_
  refine WL.so (SO.makes (Enters.func Try.call49 rfl) (fun w hI => open_ok p a1 _ c1 a2 _ c2 D _ (hR.ext (DExt.refl w D)) hI.imm ([] : List Int) _ _ _ (ints_nil _) (by omega) hv hw)) rfl ?_
  rintro _ D2 _ ⟨hX2, ⟨bq, rfl, hB⟩, rfl⟩
  have hX2 := ((DExt.refl w D)).trans hX2 (Nat.le_refl _)
  have hR2 := hR.ext hX2
  refine WL.so (SO.alloc Try.zeroValue74 rfl) rfl ?_
  rintro _ _ _ ⟨b4, hb4, rfl, rfl, rfl⟩ -- NEW
  refine WL.so (SO.store 0 rfl Try.sizeOf74 rfl rfl rfl rfl (Nat.le_of_ble_eq_true rfl) (oneB_spec rfl)) rfl ?_
  rintro _ _ _ ⟨rfl, rfl, rfl⟩
  refine WL.nil ?_
  refine WP.thenC ?_
  refine WC.seq ?_
  refine WC.freezeK 0 rfl (fun hn4 => ?_)
  have hX3 : DExt w D2 (D2.add b4 (.cells (List.toArray [pt bq]) 74 (0, 0))) := (DExt.refl w D2).add hn4 hb4
  have h4 : (D2.add b4 (.cells (List.toArray [pt bq]) 74 (0, 0))) b4 = some (.cells (List.toArray [pt bq]) 74 (0, 0)) := Imm.add_self _ _ _
  replace hB := hB.ext hX3
  replace hR2 := hR2.ext hX3
  refine (?_ : WC Try.prog _ _ (D2.add b4 (.cells (List.toArray [pt bq]) 74 (0, 0))) [_, _] _ _)
  generalize D2.add b4 (.cells (List.toArray [pt bq]) 74 (0, 0)) = D3 at hX3 h4 hB hR2 ⊢
  refine WC.ofFr [(4, _), (3, _), (2, _)] ⟨rfl, rfl, rfl, trivial⟩ ?_
  refine WC.tail 3 [0, 1, 2] rfl (by kernel_rfl) (by kernel_rfl)  ?_
  refine WQ.q rfl (Yd.qt (Yd.load1 Try.isAgg74 rfl (by first | exact Rd.own (k := 0) rfl rfl | exact Rd.own (k := 1) rfl rfl | exact (Rd.imm h4 rfl)))) rfl ?_
  refine WQ.q rfl (Yd.qt (Yd.load1 Try.isAgg74 rfl (by first | exact Rd.own (k := 0) rfl rfl | exact Rd.own (k := 1) rfl rfl | exact (Rd.imm h4 rfl)))) rfl ?_
  refine WQ.q rfl (Qt.callP Try.call64 rfl (fun w hI => every_g p a1 _ c1 a2 _ c2 bq D3 _ hB hR2 hI.imm hv)) rfl ?_
  refine WQ.tail ?_
  refine WL.so (SO.callP Try.call75 rfl (fun w hI => can_g p a1 _ c1 a2 _ c2 bq D3 _ hB hR2 hI.imm hv (everyS p))) rfl ?_
  rintro _ _ _ ⟨rfl, rfl, rfl⟩
  refine WL.know 13 (.bool false) rfl (congrArg Value.bool (show farOk p (selA p (everyS p)) = false from hok)) ?_
  refine WL.yd (Yd.not rfl) rfl ?_
  refine WL.so (SO.call (Enters.func Try.call83 rfl) (fun w hI => must_ok _ _)) rfl ?_
  rintro _ _ _ ⟨rfl, rfl, rfl⟩
  refine WL.nil ?_
  refine WP.thenC ?_
  refine WC.seq ?_
  refine WC.ofFr [(4, _), (3, _), (2, _)] ⟨rfl, rfl, rfl, trivial⟩ ?_
  refine WC.region ?_
  refine WL.yd (Yd.load1 Try.isAgg74 rfl (by first | exact Rd.own (k := 0) rfl rfl | exact Rd.own (k := 1) rfl rfl | exact (Rd.imm h4 rfl))) rfl ?_
  refine WL.so (SO.makes (Enters.func Try.call77 rfl) (fun w hI => sizes_g p a1 _ c1 a2 _ c2 bq D3 _ hB hR2 hI.imm hv)) rfl ?_
  rintro _ D5 _ ⟨hX5, ⟨bz, cz, rfl, hSz⟩, rfl⟩
  replace hB := hB.ext hX5
  replace hR2 := hR2.ext hX5
  refine WL.yd (Yd.func rfl rfl) rfl ?_
  refine WL.yd (Yd.build SA115 rfl (cs := [_]) rfl) rfl ?_
  refine WL.so (SO.callP Try.call76 rfl (fun w hI => first_g (setsL p.claims.length) _ _ cz D5 _ hSz (by omega) hI.imm 84 [pt b4] Try.call84 (clashB p) (fun w1 hH1 i hi => clash2_g p a1 _ c1 a2 _ c2 bq D5 w1 hB hR2 hH1 hv b4 _ (hX5.old _ _ h4)))) rfl ?_
  rintro _ _ _ ⟨rfl, rfl, rfl⟩
  refine WL.yd (Yd.move rfl) rfl ?_
  refine WL.yd (Yd.extract rfl rfl) rfl ?_
  refine WL.yd (Yd.extract rfl rfl) rfl ?_
  refine WL.yd (Yd.assign rfl) rfl ?_
  refine WL.yd (Yd.assign rfl) rfl ?_
  refine WL.nil ?_
  refine WP.thenC ?_
  refine WC.seq ?_
  refine WC.ofFr [(5, _), (3, _), (2, _)] ⟨rfl, rfl, rfl, trivial⟩ ?_
  refine WC.region ?_
  refine WL.yd (Yd.move rfl) rfl ?_
  refine WL.yd (Yd.convUN Try.underlying99 Try.underlying3 rfl (by omega)) rfl ?_
  refine WL.yd (Yd.assign rfl) rfl ?_
  refine WL.so (SO.store 0 rfl Try.sizeOf30 rfl rfl rfl rfl (Nat.le_of_ble_eq_true rfl) (oneB_spec rfl)) rfl ?_
  rintro _ _ _ ⟨rfl, rfl, rfl⟩
  refine WL.nil ?_
  refine WP.thenC ?_
  refine WC.ret ?_
  refine WP.endD [_, _] [_, _] rfl rfl Try.call82 (fun w hI => idle82 _ _) Try.results29 ⟨(RV.tmp rfl), (RV.cell1 Try.isAgg30 rfl (by first | exact Rd.own (k := 0) rfl rfl | exact Rd.own (k := 1) rfl rfl | exact (Rd.imm h4 rfl))), trivial⟩ (fun w hI => ⟨congrArg Ending.returned (by rw [hO]; rfl), hI.keep⟩)

theorem Clash_g (p : Post) (a1 : Option Addr) (n1 c1 : Nat) (a2 : Option Addr) (n2 c2 : Nat) (D : Imm) (w : World) (hR : PostR D p a1 n1 a2 n2) (hH : Holds D w) : Gives Try.prog 29 [.agg #[it p.post.lo, it p.post.hi, .slice a1 n1 c1, .slice a2 n2 c2]] w (.tuple #[it (ClashOut p).1, it (ClashOut p).2]) := by
  cases hv : postB p with
  | false => exact Clash_1 p a1 n1 c1 a2 n2 c2 D w hR hH hv
  | true =>
    cases hok : okA p with
    | true => exact Clash_4 p a1 n1 c1 a2 n2 c2 D w hR hH hv hok
    | false => exact Clash_ok p a1 n1 c1 a2 n2 c2 D w hR hH hv hok

end Go.Proofs.Ytkhmmefgllbobaa
