import Derived.Test.YtkhmmefgllbobaaXF
import Derived.Test.YtkhmmefgllbobaaXP
set_option linter.unusedSimpArgs false
set_option linter.unusedVariables false
set_option linter.all false
namespace Go.Proofs.Ytkhmmefgllbobaa
open Go.W Go.Po

theorem rules_snoc {D : Imm} {u : Ow} {l : List Rule} {r : Rule} (h : D u.b = some (.cells ((l.flatMap ruleC ++ [ruleV r]) ++ u.rest).toArray 88 (0, 0))) : SlL D 1 ((l ++ [r]).map ruleC) (some ⟨u.b, 0, none⟩) (l.length + 1) := by
  have e : l.flatMap ruleC ++ [ruleV r] = (l ++ [r]).flatMap ruleC := by rw [List.flatMap_append]; rfl
  rw [e] at h
  have := SlL.ofBlock (f := ruleC) (l := l ++ [r]) (rest := u.rest) ruleC_len h
  rwa [List.length_append] at this
theorem shlN_w (k : Nat) (hk : k ≤ 60) : IntKind.i64.wrap (1 * 2 ^ (min ((k : Int)).toNat IntKind.i64.bits)) = ((2 ^ k : Nat) : Int) := by
  have e : min ((k : Int)).toNat IntKind.i64.bits = k := by
    show min k 64 = k; omega
  have hp : 2 ^ k ≤ 2 ^ 60 := Nat.pow_le_pow_right (by omega) hk
  rw [e, Int.one_mul, show ((2 : Int) ^ k) = ((2 ^ k : Nat) : Int) by rw [Int.natCast_pow]; rfl]
  generalize 2 ^ k = m at hp ⊢
  exact wr64 (by omega)
theorem setTo_yes {f : Nat → Bool} {k : Nat} (h : f k = true) : setTo f (k + 1) = setTo f k + 2 ^ k := by simp only [setTo]; rw [if_pos h]
theorem setTo_no {f : Nat → Bool} {k : Nat} (h : f k = false) : setTo f (k + 1) = setTo f k := by simp only [setTo]; rw [if_neg (by rw [h]; simp)]

set_option maxRecDepth 100000 in
set_option maxHeartbeats 1000000 in
theorem Breaks_1 (p : Post) (a1 : Option Addr) (n1 c1 : Nat) (a2 : Option Addr) (n2 c2 : Nat) (D : Imm) (w : World) (hR : PostR D p a1 n1 a2 n2) (hH : Holds D w) (hv : postB p = false) : Gives Try.prog 21 [.agg #[it p.post.lo, it p.post.hi, .slice a1 n1 c1, .slice a2 n2 c2]] w (.tuple #[it (BreaksOut p).1, it (BreaksOut p).2.1, it (BreaksOut p).2.2]) := by
  unfold Gives
  obtain rfl := hR.bath.len'
  obtain rfl := hR.claim.len'
  have hl1 := hR.len1
  have hl2 := hR.len2
  have hE : toldE p true = 1 := by
    unfold toldE
    rw [if_pos hv]
  have hO : BreaksOut p = (0, 0, 1) := by unfold BreaksOut; rw [if_pos (by rw [hE]; simp), hE]
  refine enterD Try.func21 rfl 73 Try.ntmps21 (Nat.le_of_ble_eq_true rfl) (Inv.start hH) ?_
  refine WC.seq ?_
  refine WC.ofFr [(0, _)] ⟨rfl, trivial⟩ ?_
  refine WC.region ?_
  refine WL.so (SO.box rfl rfl) rfl ?_
  rintro _ _ _ ⟨b1, hb1, rfl, rfl, rfl⟩ -- NEW
  refine WL.yd (Yd.assign rfl) rfl ?_
  refine WL.yd (Yd.assign rfl) rfl ?_
  refine WL.so (SO.alloc Try.zeroValue30 rfl) rfl ?_
  rintro _ _ _ ⟨b4, hb4, rfl, rfl, rfl⟩ -- NEW
  refine WL.nil ?_
  refine WP.thenC ?_
  refine WC.seq ?_
  refine WC.ofFr [(4, _), (3, _), (2, _), (1, _)] ⟨rfl, rfl, rfl, rfl, trivial⟩ ?_
  refine WC.region ?_
  refine WL.yd (Yd.func rfl rfl) rfl ?_
  refine WL.defer rfl ?_
  refine WL.nil ?_
  refine WP.thenC ?_
  refine WC.seq ?_
  refine WC.ofFr [(4, _), (3, _), (2, _), (1, _)] ⟨rfl, rfl, rfl, rfl, trivial⟩ ?_
  refine WC.region ?_
  refine WL.yd (Yd.loadN Try.isAgg27 Try.sizeOf27 rfl (vs := [_, _, _, _]) rfl (by first | exact RdN.own (k := 0) (n := 4) rfl rfl | exact RdN.own (k := 1) (n := 4) rfl rfl)) rfl ?_
  refine WL.no (SO.fail (Enters.func Try.call49 rfl) (fun w hI => open_1 p a1 _ c1 a2 _ c2 D _ (hR.ext (DExt.refl w D)) hI.imm ([] : List Int) _ _ _ (ints_nil _) (by omega) hv) ?_)
  refine WP.thenPanic ?_
  refine WP.panicD (k := 0) [_, _, _] [_, _, _] rfl Try.call60 rfl (fun w hI => catch60 _ _ _ _ _ (hI.own _ _ (List.mem_of_getElem? (i := 0) rfl))) Try.results21 ⟨(RV.tmp rfl), (RV.tmp rfl), (RV.cell1 Try.isAgg30 rfl (by first | exact Rd.own (k := 0) rfl rfl | exact Rd.own (k := 1) rfl rfl | exact (Rd.imm hB rfl))), trivial⟩ (fun w hI => ⟨congrArg Ending.returned (by rw [hO]; rfl), hI.keep⟩)

set_option maxRecDepth 100000 in
set_option maxHeartbeats 1000000 in
theorem Breaks_3 (p : Post) (a1 : Option Addr) (n1 c1 : Nat) (a2 : Option Addr) (n2 c2 : Nat) (D : Imm) (w : World) (hR : PostR D p a1 n1 a2 n2) (hH : Holds D w) (hv : postB p = true) (hok : okA p = false) : Gives Try.prog 21 [.agg #[it p.post.lo, it p.post.hi, .slice a1 n1 c1, .slice a2 n2 c2]] w (.tuple #[it (BreaksOut p).1, it (BreaksOut p).2.1, it (BreaksOut p).2.2]) := by
  unfold Gives
  obtain rfl := hR.bath.len'
  obtain rfl := hR.claim.len'
  have hl1 := hR.len1
  have hl2 := hR.len2
  have hE : toldE p true = 10 := by
    unfold toldE
    rw [if_neg (by rw [hv]; simp), if_neg (by simp), if_pos hok]
  have hw : ([] : List Int).all (whoP p) = true := rfl
  have hO : BreaksOut p = (0, 0, 10) := by unfold BreaksOut; rw [if_pos (by rw [hE]; simp), hE]
  refine enterD Try.func21 rfl 73 Try.ntmps21 (Nat.le_of_ble_eq_true rfl) (Inv.start hH) ?_
  refine WC.seq ?_
  refine WC.ofFr [(0, _)] ⟨rfl, trivial⟩ ?_
  refine WC.region ?_
  refine WL.so (SO.box rfl rfl) rfl ?_
  rintro _ _ _ ⟨b1, hb1, rfl, rfl, rfl⟩ -- NEW
  refine WL.yd (Yd.assign rfl) rfl ?_
  refine WL.yd (Yd.assign rfl) rfl ?_
  refine WL.so (SO.alloc Try.zeroValue30 rfl) rfl ?_
  rintro _ _ _ ⟨b4, hb4, rfl, rfl, rfl⟩ -- NEW
  refine WL.nil ?_
  refine WP.thenC ?_
  refine WC.seq ?_
  refine WC.ofFr [(4, _), (3, _), (2, _), (1, _)] ⟨rfl, rfl, rfl, rfl, trivial⟩ ?_
  refine WC.region ?_
  refine WL.yd (Yd.func rfl rfl) rfl ?_
  refine WL.defer rfl ?_
  refine WL.nil ?_
  refine WP.thenC ?_
  refine WC.seq ?_
  refine WC.ofFr [(4, _), (3, _), (2, _), (1, _)] ⟨rfl, rfl, rfl, rfl, trivial⟩ ?_
  refine WC.region ?_
  refine WL.yd (Yd.loadN Try.isAgg27 Try.sizeOf27 rfl (vs := [_, _, _, _]) rfl (by first | exact RdN.own (k := 0) (n := 4) rfl rfl | exact RdN.own (k := 1) (n := 4) rfl rfl)) rfl ?_
  refine WL.so (SO.makes (Enters.func Try.call49 rfl) (fun w hI => open_ok p a1 _ c1 a2 _ c2 D _ (hR.ext (DExt.refl w D)) hI.imm ([] : List Int) _ _ _ (ints_nil _) (by omega) hv hw)) rfl ?_
  rintro _ D2 _ ⟨hX2, ⟨bq, rfl, hB⟩, rfl⟩
  have hX2 := ((DExt.refl w D)).trans hX2 (Nat.le_refl _)
  have hR2 := hR.ext hX2
  refine WL.yd (Yd.assign rfl) rfl ?_
  refine WL.nil ?_
  refine WP.thenC ?_
  refine WC.seq ?_
  refine WC.ofFr [(5, _), (4, _), (3, _), (2, _)] ⟨rfl, rfl, rfl, rfl, trivial⟩ ?_
  refine WC.region ?_
  refine WL.yd (Yd.move rfl) rfl ?_
  refine WL.no (SO.fail (Enters.func Try.call50 rfl) (fun w hI => told_no p a1 _ c1 a2 _ c2 bq D2 _ hB hR2 hI.imm hv hok) ?_)
  refine WP.thenPanic ?_
  refine WP.panicD (k := 0) [_, _, _] [_, _, _] rfl Try.call60 rfl (fun w hI => catch60 _ _ _ _ _ (hI.own _ _ (List.mem_of_getElem? (i := 0) rfl))) Try.results21 ⟨(RV.tmp rfl), (RV.tmp rfl), (RV.cell1 Try.isAgg30 rfl (by first | exact Rd.own (k := 0) rfl rfl | exact Rd.own (k := 1) rfl rfl | exact (Rd.imm hB rfl))), trivial⟩ (fun w hI => ⟨congrArg Ending.returned (by rw [hO]; rfl), hI.keep⟩)

set_option maxRecDepth 100000 in
set_option maxHeartbeats 1000000 in
theorem Breaks_ok (p : Post) (a1 : Option Addr) (n1 c1 : Nat) (a2 : Option Addr) (n2 c2 : Nat) (D : Imm) (w : World) (hR : PostR D p a1 n1 a2 n2) (hH : Holds D w) (hv : postB p = true) (hok : okA p = true) : Gives Try.prog 21 [.agg #[it p.post.lo, it p.post.hi, .slice a1 n1 c1, .slice a2 n2 c2]] w (.tuple #[it (BreaksOut p).1, it (BreaksOut p).2.1, it (BreaksOut p).2.2]) := by
  unfold Gives
  obtain rfl := hR.bath.len'
  obtain rfl := hR.claim.len'
  have hl1 := hR.len1
  have hl2 := hR.len2
  have hE : toldE p true = 0 := by
    unfold toldE
    rw [if_neg (by rw [hv]; simp), if_neg (by simp), if_neg (by rw [hok]; simp)]
  have hw : ([] : List Int).all (whoP p) = true := rfl
  have h5 := (post_num hv).2.1
  have h8 := (post_num hv).2.2.1
  have hO : BreaksOut p = ((((setTo (fun i => !canBreak p i false) p.bathers.length) : Nat) : Int), (((setTo (fun i => canBreak p i true) p.bathers.length) : Nat) : Int), 0) := by unfold BreaksOut; rw [if_neg (by rw [hE]; simp)]
  refine enterD Try.func21 rfl 73 Try.ntmps21 (Nat.le_of_ble_eq_true rfl) (Inv.start hH) ?_
  refine WC.seq ?_
  refine WC.ofFr [(0, _)] ⟨rfl, trivial⟩ ?_
  refine WC.region ?_
  refine WL.so (SO.box rfl rfl) rfl ?_
  rintro _ _ _ ⟨b1, hb1, rfl, rfl, rfl⟩ -- NEW
  refine WL.yd (Yd.assign rfl) rfl ?_
  refine WL.yd (Yd.assign rfl) rfl ?_
  refine WL.so (SO.alloc Try.zeroValue30 rfl) rfl ?_
  rintro _ _ _ ⟨b4, hb4, rfl, rfl, rfl⟩ -- NEW
  refine WL.nil ?_
  refine WP.thenC ?_
  refine WC.seq ?_
  refine WC.ofFr [(4, _), (3, _), (2, _), (1, _)] ⟨rfl, rfl, rfl, rfl, trivial⟩ ?_
  refine WC.region ?_
  refine WL.yd (Yd.func rfl rfl) rfl ?_
  refine WL.defer rfl ?_
  refine WL.nil ?_
  refine WP.thenC ?_
  refine WC.seq ?_
  refine WC.ofFr [(4, _), (3, _), (2, _), (1, _)] ⟨rfl, rfl, rfl, rfl, trivial⟩ ?_
  refine WC.region ?_
  refine WL.yd (Yd.loadN Try.isAgg27 Try.sizeOf27 rfl (vs := [_, _, _, _]) rfl (by first | exact RdN.own (k := 0) (n := 4) rfl rfl | exact RdN.own (k := 1) (n := 4) rfl rfl)) rfl ?_
  refine WL.so (SO.makes (Enters.func Try.call49 rfl) (fun w hI => open_ok p a1 _ c1 a2 _ c2 D _ (hR.ext (DExt.refl w D)) hI.imm ([] : List Int) _ _ _ (ints_nil _) (by omega) hv hw)) rfl ?_
  rintro _ D2 _ ⟨hX2, ⟨bq, rfl, hB⟩, rfl⟩
  have hX2 := ((DExt.refl w D)).trans hX2 (Nat.le_refl _)
  have hR2 := hR.ext hX2
  refine WL.yd (Yd.assign rfl) rfl ?_
  refine WL.nil ?_
  refine WP.thenC ?_
  refine WC.seq ?_
  refine WC.ofFr [(5, _), (4, _), (3, _), (2, _)] ⟨rfl, rfl, rfl, rfl, trivial⟩ ?_
  refine WC.region ?_
  refine WL.yd (Yd.move rfl) rfl ?_
  refine WL.so (SO.makes (Enters.func Try.call50 rfl) (fun w hI => told_ok p a1 _ c1 a2 _ c2 bq D2 _ hB hR2 hI.imm hv hok)) rfl ?_
  rintro m3 D3 _ ⟨hX3, hMA, rfl⟩
  replace hB := hB.ext hX3
  replace hR2 := hR2.ext hX3
  refine WL.nil ?_
  refine WP.thenC ?_
  refine WC.seq ?_
  refine WC.ofFr [(5, _), (4, _), (3, _), (2, _)] ⟨rfl, rfl, rfl, rfl, trivial⟩ ?_
  refine WC.region ?_
  refine WL.yd (Yd.assign rfl) rfl ?_
  refine WL.yd (Yd.assign rfl) rfl ?_
  refine WL.nil ?_
  refine WP.thenC ?_
  refine WC.seq ?_
  refine WC.seq ?_
  refine WC.ofFr [(7, _), (6, _), (5, _), (4, _), (3, _), (2, _)] ⟨rfl, rfl, rfl, rfl, rfl, rfl, trivial⟩ ?_
  refine WC.region ?_
  refine WL.yd (Yd.move rfl) rfl ?_
  refine WL.so (SO.callP Try.call61 rfl (fun w hI => sides_g p a1 _ c1 a2 _ c2 bq D3 _ hB hR2 hI.imm hv)) rfl ?_
  rintro _ _ _ ⟨rfl, rfl, rfl⟩
  refine WL.yd (Yd.move rfl) rfl ?_
  refine WL.nil ?_
  refine WP.thenC ?_
  refine WC.block ?_
  refine WC.loop (fun y : Nat × Imm => [(4, pt b4), (5, pt bq), (6, nt (setTo (fun i => !canBreak p i false) y.1)), (7, nt (setTo (fun i => canBreak p i true) y.1)), (20, .agg (sidesC p p.bathers.length).toArray), (21, nt y.1)]) (fun _ => [(b4, .cells (List.toArray [it 0]) 30 (0, 0))]) (fun y => y.2) (fun y => y.1 ≤ p.bathers.length ∧ BeachAt y.2 bq p (.slice a1 p.bathers.length c1) (.slice a2 p.claims.length c2) ∧ PostR y.2 p a1 p.bathers.length a2 p.claims.length) (fun y => p.bathers.length - y.1) (0, D3) ⟨by omega, hB, hR2⟩ (fun a w h => at_less h ⟨rfl, rfl, rfl, rfl, rfl, rfl, trivial⟩ (fun e he => by rw [List.mem_singleton.1 he]; exact List.mem_cons_self ..) (fun _ => by simp)) ?_
  clear hB hR2
  rintro ⟨k, D4⟩ ⟨hk, hB, hR2⟩
  dsimp only at hk hB hR2
  refine WC.seq ?_
  refine WC.ofFr [(4, _), (5, _), (6, _), (7, _), (20, _), (21, _)] ⟨rfl, rfl, rfl, rfl, rfl, rfl, trivial⟩ ?_
  refine WC.region ?_
  refine WL.yd (Yd.lss rfl rfl) rfl ?_
  refine WL.nil ?_
  refine WP.thenC ?_
  refine WC.seq ?_
  refine WC.cond rfl (fun c22 => ?_) (fun c22 => ?_)
  · try simp only [zq1, zq2, zq3, zq4, zq5, zq6, zq7, zq8] at c22
    refine WC.skip ?_
    refine WP.thenC ?_
    refine WC.seq ?_
    refine WC.block ?_
    refine WC.seq ?_
    refine WC.ofFr [(4, _), (5, _), (6, _), (7, _), (20, _), (21, _)] ⟨rfl, rfl, rfl, rfl, rfl, rfl, trivial⟩ ?_
    refine WC.region ?_
    refine WL.yd (Yd.move rfl) rfl ?_
    refine WL.yd (Yd.index (cs := sidesC p p.bathers.length) (j := k) Try.underlying91 Try.sizeOf89 rfl rfl (by omega) (sides_part p p.bathers.length (by omega))) rfl ?_
    refine WL.so (SO.alloc Try.zeroValue89 rfl) rfl ?_
    rintro _ _ _ ⟨b9, hb9, rfl, rfl, rfl⟩ -- NEW
    refine WL.yd (Yd.assign rfl) rfl ?_
    refine WL.so (SO.store 0 rfl Try.sizeOf89 rfl rfl rfl (sideV_len p p.bathers.length k) (by show 0 + 2 ≤ 2; omega) (sideV_one p p.bathers.length k)) rfl ?_
    rintro _ _ _ ⟨rfl, rfl, rfl⟩
    rw [sideV_splice]
    refine WL.nil ?_
    refine WP.thenC ?_
    refine WC.seq ?_
    refine WC.seq ?_
    refine WC.ofFr [(8, _), (9, _), (4, _), (5, _), (6, _), (7, _), (20, _), (21, _)] ⟨rfl, rfl, rfl, rfl, rfl, rfl, rfl, rfl, trivial⟩ ?_
    refine WC.region ?_
    refine WL.yd (Yd.move rfl) rfl ?_
    refine WL.yd (Yd.move rfl) rfl ?_
    refine WL.yd (Yd.nilCheck rfl) rfl ?_
    refine WL.yd (Yd.fieldAddr FA94_0 rfl) rfl ?_
    refine WL.yd (Yd.fieldAddr FA27_1 rfl) rfl ?_
    refine WL.yd (Yd.load1 Try.isAgg24 rfl (by first | exact Rd.own (k := 0) rfl rfl | exact Rd.own (k := 1) rfl rfl | exact (Rd.imm hB rfl))) rfl ?_
    refine WL.yd (Yd.lenS rfl Try.underlying24 rfl) rfl ?_
    refine WL.yd (Yd.eql rfl rfl) rfl ?_
    refine WL.nil ?_
    refine WP.thenC ?_
    refine WC.cond rfl (fun c32 => ?_) (fun c32 => ?_)
    · try simp only [zq1, zq2, zq3, zq4, zq5, zq6, zq7, zq8] at c32
      refine WC.exit ?_
      refine WP.thenExit ?_
      refine WP.blkMiss rfl ?_
      refine WP.thenExit ?_
      refine WP.thenExit ?_
      refine WP.blkHit ?_
      refine WP.thenC ?_
      refine WC.seq ?_
      obtain rfl : k = p.bathers.length := by omega
      refine WC.ofFr [(4, _), (6, _), (7, _)] ⟨rfl, rfl, rfl, trivial⟩ ?_
      refine WC.region ?_
      refine WL.yd (Yd.move rfl) rfl ?_
      refine WL.yd (Yd.move rfl) rfl ?_
      refine WL.yd (Yd.assign rfl) rfl ?_
      refine WL.yd (Yd.assign rfl) rfl ?_
      refine WL.so (SO.store 1 rfl Try.sizeOf30 rfl rfl rfl rfl (Nat.le_of_ble_eq_true rfl) (oneB_spec rfl)) rfl ?_
      rintro _ _ _ ⟨rfl, rfl, rfl⟩
      refine WL.nil ?_
      refine WP.thenC ?_
      refine WC.ret ?_
      refine WP.endD [_, _, _] [_, _, _] rfl rfl Try.call60 (fun w hI => idle60 _ _) Try.results21 ⟨(RV.tmp rfl), (RV.tmp rfl), (RV.cell1 Try.isAgg30 rfl (by first | exact Rd.own (k := 0) rfl rfl | exact Rd.own (k := 1) rfl rfl | exact (Rd.imm hB rfl))), trivial⟩ (fun w hI => ⟨congrArg Ending.returned (by rw [hO]; rfl), hI.keep⟩)
    · try simp only [zq1, zq2, zq3, zq4, zq5, zq6, zq7, zq8] at c32
      have hkn : k < p.bathers.length := by omega
      rw [sideV_lt hkn]
      have hla := setTo_lt (fun i => !canBreak p i false) k
      have hls := setTo_lt (fun i => canBreak p i true) k
      have hpw : 2 ^ k ≤ 2 ^ 4 := Nat.pow_le_pow_right (by omega) (by omega)
      have hal : (selA p (everyS p)).length ≤ 8 := by have := selR_len p (everyS p) p.claims.length; unfold selA; omega
      refine WC.skip ?_
      refine WP.thenC ?_
      refine WC.seqJ (fun _ : Imm => [(4, pt b4), (5, pt bq), (6, nt (setTo (fun i => !canBreak p i false) (k + 1))), (7, nt (setTo (fun i => canBreak p i true) k)), (8, nt k), (9, pt b9), (20, .agg (sidesC p p.bathers.length).toArray), (21, nt k)]) (fun _ => [(b9, .cells (List.toArray [ruleV (sideR p k false), ruleV (sideR p k true)]) 89 (0, 0)), (b4, .cells (List.toArray [it 0]) 30 (0, 0))]) (fun y => y) (fun y => k < p.bathers.length ∧ BeachAt y bq p (.slice a1 p.bathers.length c1) (.slice a2 p.claims.length c2) ∧ PostR y p a1 p.bathers.length a2 p.claims.length) ?_ ?_
      · clear hB hR2
        rintro D9 ⟨hkn, hB, hR2⟩
        have hla := setTo_lt (fun i => !canBreak p i false) k
        have hls := setTo_lt (fun i => canBreak p i true) k
        have hpw : 2 ^ k ≤ 2 ^ 4 := Nat.pow_le_pow_right (by omega) (by omega)
        have hal : (selA p (everyS p)).length ≤ 8 := by have := selR_len p (everyS p) p.claims.length; unfold selA; omega
        refine WC.seqJ (fun _ : Imm => [(4, pt b4), (5, pt bq), (6, nt (setTo (fun i => !canBreak p i false) (k + 1))), (7, nt (setTo (fun i => canBreak p i true) k)), (8, nt k), (9, pt b9), (13, .bool (canBreak p k true)), (20, .agg (sidesC p p.bathers.length).toArray), (21, nt k)]) (fun _ => [(b9, .cells (List.toArray [ruleV (sideR p k false), ruleV (sideR p k true)]) 89 (0, 0)), (b4, .cells (List.toArray [it 0]) 30 (0, 0))]) (fun y => y) (fun y => k < p.bathers.length ∧ BeachAt y bq p (.slice a1 p.bathers.length c1) (.slice a2 p.claims.length c2) ∧ PostR y p a1 p.bathers.length a2 p.claims.length) ?_ ?_
        · clear hB hR2
          rintro D6 ⟨hkn, hB, hR2⟩
          have hla := setTo_lt (fun i => !canBreak p i false) k
          have hls := setTo_lt (fun i => canBreak p i true) k
          have hpw : 2 ^ k ≤ 2 ^ 4 := Nat.pow_le_pow_right (by omega) (by omega)
          have hal : (selA p (everyS p)).length ≤ 8 := by have := selR_len p (everyS p) p.claims.length; unfold selA; omega
          refine WC.seq ?_
          refine WC.ofFr [(4, _), (5, _), (6, _), (7, _), (8, _), (13, _), (20, _), (21, _)] ⟨rfl, rfl, rfl, rfl, rfl, rfl, rfl, rfl, trivial⟩ ?_
          refine WC.region ?_
          refine WL.yd (Yd.move rfl) rfl ?_
          refine WL.nil ?_
          refine WP.thenC ?_
          refine WC.cond rfl (fun c65 => ?_) (fun c65 => ?_)
          · try simp only [zq1, zq2, zq3, zq4, zq5, zq6, zq7, zq8] at c65
            have hcs : canBreak p k true = true := c65
            refine WC.ofFr [(4, _), (5, _), (6, _), (7, _), (8, _), (20, _), (21, _)] ⟨rfl, rfl, rfl, rfl, rfl, rfl, rfl, trivial⟩ ?_
            refine WC.region ?_
            refine WL.yd (Yd.move rfl) rfl ?_
            refine WL.yd (Yd.move rfl) rfl ?_
            refine WL.yd (Yd.shl rfl rfl (by omega) (shlN_w k (by omega))) rfl ?_
            refine WL.yd (Yd.orN (a := (setTo (fun i => canBreak p i true) k)) (b := 2 ^ k) (by omega) (by omega) rfl rfl) rfl ?_
            refine WL.yd (Yd.assign rfl) rfl ?_
            refine WL.nil ?_
            refine WP.blkNormal ?_
            refine WP.thenC ?_
            refine WC.ofFr [(7, _), (4, _), (5, _), (6, _), (20, _), (21, _)] ⟨rfl, rfl, rfl, rfl, rfl, rfl, trivial⟩ ?_
            refine WC.region ?_
            refine WL.yd (Yd.add rfl rfl (wr64 ⟨by omega, by omega⟩)) rfl ?_
            refine WL.yd (Yd.move rfl) rfl ?_
            refine WL.nil ?_
            first
              | (have e1 := setTo_yes (f := fun i => canBreak p i true) hcs
                 refine WP.again (⟨k + 1, _⟩ : Nat × Imm) ⟨by simp only; omega, hB, hR2⟩ (by simp only; omega) (fun aa ww h => ?_)
                 show At _ [(4, pt b4), (5, pt bq), (6, nt (setTo (fun i => !canBreak p i false) (k + 1))), (7, nt (setTo (fun i => canBreak p i true) (k + 1))), (20, .agg (sidesC p p.bathers.length).toArray), (21, nt (k + 1))] _ [(b4, .cells (List.toArray [it 0]) 30 (0, 0))] aa ww
                 rw [e1, ← or_pow hls]
                 exact at_less h ⟨rfl, rfl, rfl, rfl, rfl, rfl, trivial⟩ (fun _ h => List.mem_cons_of_mem _ h) (fun h => (List.nodup_cons.1 h).2))
              | (have e1 := setTo_no (f := fun i => canBreak p i true) hcs
                 refine WP.again (⟨k + 1, _⟩ : Nat × Imm) ⟨by simp only; omega, hB, hR2⟩ (by simp only; omega) (fun aa ww h => ?_)
                 show At _ [(4, pt b4), (5, pt bq), (6, nt (setTo (fun i => !canBreak p i false) (k + 1))), (7, nt (setTo (fun i => canBreak p i true) (k + 1))), (20, .agg (sidesC p p.bathers.length).toArray), (21, nt (k + 1))] _ [(b4, .cells (List.toArray [it 0]) 30 (0, 0))] aa ww
                 rw [e1]
                 exact at_less h ⟨rfl, rfl, rfl, rfl, rfl, rfl, trivial⟩ (fun _ h => List.mem_cons_of_mem _ h) (fun h => (List.nodup_cons.1 h).2))
          · try simp only [zq1, zq2, zq3, zq4, zq5, zq6, zq7, zq8] at c65
            have hcs : canBreak p k true = false := c65
            refine WC.skip ?_
            refine WP.blkNormal ?_
            refine WP.thenC ?_
            refine WC.ofFr [(4, _), (5, _), (6, _), (7, _), (20, _), (21, _)] ⟨rfl, rfl, rfl, rfl, rfl, rfl, trivial⟩ ?_
            refine WC.region ?_
            refine WL.yd (Yd.add rfl rfl (wr64 ⟨by omega, by omega⟩)) rfl ?_
            refine WL.yd (Yd.move rfl) rfl ?_
            refine WL.nil ?_
            first
              | (have e1 := setTo_yes (f := fun i => canBreak p i true) hcs
                 refine WP.again (⟨k + 1, _⟩ : Nat × Imm) ⟨by simp only; omega, hB, hR2⟩ (by simp only; omega) (fun aa ww h => ?_)
                 show At _ [(4, pt b4), (5, pt bq), (6, nt (setTo (fun i => !canBreak p i false) (k + 1))), (7, nt (setTo (fun i => canBreak p i true) (k + 1))), (20, .agg (sidesC p p.bathers.length).toArray), (21, nt (k + 1))] _ [(b4, .cells (List.toArray [it 0]) 30 (0, 0))] aa ww
                 rw [e1, ← or_pow hls]
                 exact at_less h ⟨rfl, rfl, rfl, rfl, rfl, rfl, trivial⟩ (fun _ h => List.mem_cons_of_mem _ h) (fun h => (List.nodup_cons.1 h).2))
              | (have e1 := setTo_no (f := fun i => canBreak p i true) hcs
                 refine WP.again (⟨k + 1, _⟩ : Nat × Imm) ⟨by simp only; omega, hB, hR2⟩ (by simp only; omega) (fun aa ww h => ?_)
                 show At _ [(4, pt b4), (5, pt bq), (6, nt (setTo (fun i => !canBreak p i false) (k + 1))), (7, nt (setTo (fun i => canBreak p i true) (k + 1))), (20, .agg (sidesC p p.bathers.length).toArray), (21, nt (k + 1))] _ [(b4, .cells (List.toArray [it 0]) 30 (0, 0))] aa ww
                 rw [e1]
                 exact at_less h ⟨rfl, rfl, rfl, rfl, rfl, rfl, trivial⟩ (fun _ h => List.mem_cons_of_mem _ h) (fun h => (List.nodup_cons.1 h).2))
        · skip
          refine WC.ofFr [(4, _), (5, _), (6, _), (7, _), (8, _), (9, _), (20, _), (21, _)] ⟨rfl, rfl, rfl, rfl, rfl, rfl, rfl, rfl, trivial⟩ ?_
          refine WC.drawH [_, _] (by kernel_rfl) (fun _ hI => hI) ?_
          refine WH.yd (i := 0) (by kernel_rfl) (QuietOn.then (QuietOn.blk (QuietOn.then (QuietOn.then (QuietOn.blk (QuietOn.then (QuietOn.bodyD (by kernel_rfl)))))))) rfl (Yd.move rfl) rfl ?_
          refine WH.yd (i := 1) (by kernel_rfl) (QuietOn.then (QuietOn.blk (QuietOn.then (QuietOn.then (QuietOn.blk (QuietOn.then (QuietOn.bodyD (by kernel_rfl)))))))) rfl (Yd.move rfl) rfl ?_
          refine WH.yd (i := 2) (by kernel_rfl) (QuietOn.then (QuietOn.blk (QuietOn.then (QuietOn.then (QuietOn.blk (QuietOn.then (QuietOn.bodyD (by kernel_rfl)))))))) rfl (Yd.move rfl) rfl ?_
          refine WH.yd (i := 5) (by kernel_rfl) (QuietOn.then (QuietOn.blk (QuietOn.then (QuietOn.then (QuietOn.blk (QuietOn.then (QuietOn.bodyD (by kernel_rfl)))))))) rfl (Yd.indexA Try.underlying89 Try.sizeOf88 rfl rfl (by omega) (by omega)) rfl ?_
          refine WH.yd (i := 6) (by kernel_rfl) (QuietOn.then (QuietOn.blk (QuietOn.then (QuietOn.then (QuietOn.blk (QuietOn.then (QuietOn.bodyD (by kernel_rfl)))))))) rfl (Yd.load1 Try.isAgg88 rfl (by first | exact Rd.own (k := 0) rfl rfl | exact Rd.own (k := 1) rfl rfl | exact (Rd.imm hB rfl))) rfl ?_
          refine WH.two (i := 3) (j := 7) (by kernel_rfl) ?_ ?_
          · refine WHo.so rfl (SO.callP Try.call64 rfl (fun w hI => every_g p a1 _ c1 a2 _ c2 bq _ _ hB hR2 hI.imm hv)) rfl ?_
            rintro _ _ _ ⟨rfl, rfl, rfl⟩
            refine ⟨(fun _ hI => hI.drop 0), ?_⟩
            refine WH.two (i := 4) (j := 7) (by kernel_rfl) ?_ ?_
            · refine WHo.so rfl (SO.news (Enters.func Try.call63 rfl) (fun w2 hI => rules_w w p a1 _ c1 a2 _ c2 bq _ w2 hB hR2 hI.imm hv (everyS p) hI.keep.size)) rfl ?_
              rintro _ D7 _ ⟨_, hX7, ⟨o, rfl, ho, rfl⟩, rfl⟩
              refine ⟨(fun _ hI => (Inv.left (l1 := [_, _]) (hI.drop 0)).shrink hX7.old), ?_⟩
              refine WH.one (i := 7) (by kernel_rfl) (WHo.so rfl (SO.buildSlice Try.underlying97 Try.sizeOf88 Try.zeroValue88 rfl rfl rfl rfl (cs := [_]) rfl) rfl ?_)
              rintro _ _ _ ⟨b60, hb60, rfl, rfl, rfl⟩ -- NEW
              refine ⟨(fun _ hI => (Inv.left (l1 := [_, _]) (hI.drop 1)).shrink hX7.old), ?_⟩
              refine WH.one (i := 8) (by kernel_rfl) (WHo.so rfl (SO.appendOw (o := o) (len := (selA p (everyS p)).length) (n := 1) (xs := (selA p (everyS p)).flatMap ruleC) (size := 1) [_] [_, _] [] rfl rfl Try.underlying97 Try.sizeOf88 Try.typeInfo88 Try.zeroValue88 rfl rfl rfl rfl ⟨rfl, .inr ⟨_, _, _, rfl, RdN.own (k := 0) (n := 1) rfl rfl⟩⟩ (oneB_spec rfl) ho (flat_len ruleC_len _) (by omega) (by show (2 * (_ + _) + 1000) * 16 ≤ 2 ^ 48; omega) (by omega)) rfl ?_)
              rintro _ _ _ ⟨u1, hu1, rfl, rfl, rfl⟩
              have hbu1 := hu1.1
              refine ⟨(fun _ hI => (Inv.left (l1 := [_, _]) hI).shrink hX7.old), ?_⟩
              refine WH.freezeK 2 rfl (fun hnu1 => ?_)
              have hFu1 := fun o => (DExt.refl w D7).add (o := o) hnu1 hbu1
              refine WH.one (i := 9) (by kernel_rfl) (WHo.so rfl (SO.makes (Enters.func Try.call62 rfl) (fun w hI => bounds_g p a1 _ c1 a2 _ c2 bq _ _ ((hB.ext hX7).ext (hFu1 _)) ((hR2.ext hX7).ext (hFu1 _)) hI.imm hv ((selA p (everyS p)) ++ [sideR p k true]) (some ⟨u1.b, 0, none⟩) _ u1.cap (rules_snoc (Imm.add_self _ _ _)) (by omega) ((allR_in hv).app (RulesP.one (sideR_in hkn true))))) rfl ?_)
              rintro _ D8 _ ⟨hX8, ⟨es, clock, bm, rfl, hbm, hM⟩, rfl⟩
              replace hB := ((hB.ext hX7).ext (hFu1 _)).ext hX8
              replace hR2 := ((hR2.ext hX7).ext (hFu1 _)).ext hX8
              refine ⟨(fun _ hI => hI.shrink ((hX7.trans (hFu1 _) (Nat.le_refl _)).trans hX8 (Nat.le_refl _)).old), ?_⟩
              refine WH.yd (i := 10) (by kernel_rfl) (QuietOn.then (QuietOn.blk (QuietOn.then (QuietOn.then (QuietOn.blk (QuietOn.then (QuietOn.bodyD (by kernel_rfl)))))))) rfl (Yd.move rfl) rfl ?_
              refine WH.yd (i := 11) (by kernel_rfl) (QuietOn.then (QuietOn.blk (QuietOn.then (QuietOn.then (QuietOn.blk (QuietOn.then (QuietOn.bodyD (by kernel_rfl)))))))) rfl (Yd.extract rfl rfl) rfl ?_
              refine WH.yd (i := 12) (by kernel_rfl) (QuietOn.then (QuietOn.blk (QuietOn.then (QuietOn.then (QuietOn.blk (QuietOn.then (QuietOn.bodyD (by kernel_rfl)))))))) rfl (Yd.extract rfl rfl) rfl ?_
              refine WH.yd (i := 13) (by kernel_rfl) (QuietOn.then (QuietOn.blk (QuietOn.then (QuietOn.then (QuietOn.blk (QuietOn.then (QuietOn.bodyD (by kernel_rfl)))))))) rfl (Yd.assign rfl) rfl ?_
              refine WH.yd (i := 14) (by kernel_rfl) (QuietOn.then (QuietOn.blk (QuietOn.then (QuietOn.then (QuietOn.blk (QuietOn.then (QuietOn.bodyD (by kernel_rfl)))))))) rfl (Yd.assign rfl) rfl ?_
              refine WH.nil (by kernel_rfl) ?_
              exact WP.join _ ⟨hkn, hB, hR2⟩ (fun aa ww h => at_fr h ⟨rfl, rfl, rfl, rfl, rfl, rfl, rfl, rfl, rfl, trivial⟩)
            · refine WHo.so rfl (SO.buildSlice Try.underlying97 Try.sizeOf88 Try.zeroValue88 rfl rfl rfl rfl (cs := [_]) rfl) rfl ?_
              rintro _ _ _ ⟨b60, hb60, rfl, rfl, rfl⟩ -- NEW
              refine ⟨(fun _ hI => hI.drop 1), ?_⟩
              refine WH.one (i := 4) (by kernel_rfl) (WHo.so rfl (SO.news (Enters.func Try.call63 rfl) (fun w2 hI => rules_w w p a1 _ c1 a2 _ c2 bq _ w2 hB hR2 hI.imm hv (everyS p) hI.keep.size)) rfl ?_)
              rintro _ D7 _ ⟨_, hX7, ⟨o, rfl, ho, rfl⟩, rfl⟩
              refine ⟨(fun _ hI => (Inv.left (l1 := [_, _]) (hI.drop 1)).shrink hX7.old), ?_⟩
              refine WH.one (i := 8) (by kernel_rfl) (WHo.so rfl (SO.appendOw (o := o) (len := (selA p (everyS p)).length) (n := 1) (xs := (selA p (everyS p)).flatMap ruleC) (size := 1) [_] [_, _] [] rfl rfl Try.underlying97 Try.sizeOf88 Try.typeInfo88 Try.zeroValue88 rfl rfl rfl rfl ⟨rfl, .inr ⟨_, _, _, rfl, RdN.own (k := 0) (n := 1) rfl rfl⟩⟩ (oneB_spec rfl) ho (flat_len ruleC_len _) (by omega) (by show (2 * (_ + _) + 1000) * 16 ≤ 2 ^ 48; omega) (by omega)) rfl ?_)
              rintro _ _ _ ⟨u1, hu1, rfl, rfl, rfl⟩
              have hbu1 := hu1.1
              refine ⟨(fun _ hI => (Inv.left (l1 := [_, _]) hI).shrink hX7.old), ?_⟩
              refine WH.freezeK 2 rfl (fun hnu1 => ?_)
              have hFu1 := fun o => (DExt.refl w D7).add (o := o) hnu1 hbu1
              refine WH.one (i := 9) (by kernel_rfl) (WHo.so rfl (SO.makes (Enters.func Try.call62 rfl) (fun w hI => bounds_g p a1 _ c1 a2 _ c2 bq _ _ ((hB.ext hX7).ext (hFu1 _)) ((hR2.ext hX7).ext (hFu1 _)) hI.imm hv ((selA p (everyS p)) ++ [sideR p k true]) (some ⟨u1.b, 0, none⟩) _ u1.cap (rules_snoc (Imm.add_self _ _ _)) (by omega) ((allR_in hv).app (RulesP.one (sideR_in hkn true))))) rfl ?_)
              rintro _ D8 _ ⟨hX8, ⟨es, clock, bm, rfl, hbm, hM⟩, rfl⟩
              replace hB := ((hB.ext hX7).ext (hFu1 _)).ext hX8
              replace hR2 := ((hR2.ext hX7).ext (hFu1 _)).ext hX8
              refine ⟨(fun _ hI => hI.shrink ((hX7.trans (hFu1 _) (Nat.le_refl _)).trans hX8 (Nat.le_refl _)).old), ?_⟩
              refine WH.yd (i := 10) (by kernel_rfl) (QuietOn.then (QuietOn.blk (QuietOn.then (QuietOn.then (QuietOn.blk (QuietOn.then (QuietOn.bodyD (by kernel_rfl)))))))) rfl (Yd.move rfl) rfl ?_
              refine WH.yd (i := 11) (by kernel_rfl) (QuietOn.then (QuietOn.blk (QuietOn.then (QuietOn.then (QuietOn.blk (QuietOn.then (QuietOn.bodyD (by kernel_rfl)))))))) rfl (Yd.extract rfl rfl) rfl ?_
              refine WH.yd (i := 12) (by kernel_rfl) (QuietOn.then (QuietOn.blk (QuietOn.then (QuietOn.then (QuietOn.blk (QuietOn.then (QuietOn.bodyD (by kernel_rfl)))))))) rfl (Yd.extract rfl rfl) rfl ?_
              refine WH.yd (i := 13) (by kernel_rfl) (QuietOn.then (QuietOn.blk (QuietOn.then (QuietOn.then (QuietOn.blk (QuietOn.then (QuietOn.bodyD (by kernel_rfl)))))))) rfl (Yd.assign rfl) rfl ?_
              refine WH.yd (i := 14) (by kernel_rfl) (QuietOn.then (QuietOn.blk (QuietOn.then (QuietOn.then (QuietOn.blk (QuietOn.then (QuietOn.bodyD (by kernel_rfl)))))))) rfl (Yd.assign rfl) rfl ?_
              refine WH.nil (by kernel_rfl) ?_
              exact WP.join _ ⟨hkn, hB, hR2⟩ (fun aa ww h => at_fr h ⟨rfl, rfl, rfl, rfl, rfl, rfl, rfl, rfl, rfl, trivial⟩)
          · refine WHo.so rfl (SO.buildSlice Try.underlying97 Try.sizeOf88 Try.zeroValue88 rfl rfl rfl rfl (cs := [_]) rfl) rfl ?_
            rintro _ _ _ ⟨b60, hb60, rfl, rfl, rfl⟩ -- NEW
            refine ⟨(fun _ hI => hI.drop 1), ?_⟩
            refine WH.one (i := 3) (by kernel_rfl) (WHo.so rfl (SO.callP Try.call64 rfl (fun w hI => every_g p a1 _ c1 a2 _ c2 bq _ _ hB hR2 hI.imm hv)) rfl ?_)
            rintro _ _ _ ⟨rfl, rfl, rfl⟩
            refine ⟨(fun _ hI => hI.drop 1), ?_⟩
            refine WH.one (i := 4) (by kernel_rfl) (WHo.so rfl (SO.news (Enters.func Try.call63 rfl) (fun w2 hI => rules_w w p a1 _ c1 a2 _ c2 bq _ w2 hB hR2 hI.imm hv (everyS p) hI.keep.size)) rfl ?_)
            rintro _ D7 _ ⟨_, hX7, ⟨o, rfl, ho, rfl⟩, rfl⟩
            refine ⟨(fun _ hI => (Inv.left (l1 := [_, _]) (hI.drop 1)).shrink hX7.old), ?_⟩
            refine WH.one (i := 8) (by kernel_rfl) (WHo.so rfl (SO.appendOw (o := o) (len := (selA p (everyS p)).length) (n := 1) (xs := (selA p (everyS p)).flatMap ruleC) (size := 1) [_] [_, _] [] rfl rfl Try.underlying97 Try.sizeOf88 Try.typeInfo88 Try.zeroValue88 rfl rfl rfl rfl ⟨rfl, .inr ⟨_, _, _, rfl, RdN.own (k := 0) (n := 1) rfl rfl⟩⟩ (oneB_spec rfl) ho (flat_len ruleC_len _) (by omega) (by show (2 * (_ + _) + 1000) * 16 ≤ 2 ^ 48; omega) (by omega)) rfl ?_)
            rintro _ _ _ ⟨u1, hu1, rfl, rfl, rfl⟩
            have hbu1 := hu1.1
            refine ⟨(fun _ hI => (Inv.left (l1 := [_, _]) hI).shrink hX7.old), ?_⟩
            refine WH.freezeK 2 rfl (fun hnu1 => ?_)
            have hFu1 := fun o => (DExt.refl w D7).add (o := o) hnu1 hbu1
            refine WH.one (i := 9) (by kernel_rfl) (WHo.so rfl (SO.makes (Enters.func Try.call62 rfl) (fun w hI => bounds_g p a1 _ c1 a2 _ c2 bq _ _ ((hB.ext hX7).ext (hFu1 _)) ((hR2.ext hX7).ext (hFu1 _)) hI.imm hv ((selA p (everyS p)) ++ [sideR p k true]) (some ⟨u1.b, 0, none⟩) _ u1.cap (rules_snoc (Imm.add_self _ _ _)) (by omega) ((allR_in hv).app (RulesP.one (sideR_in hkn true))))) rfl ?_)
            rintro _ D8 _ ⟨hX8, ⟨es, clock, bm, rfl, hbm, hM⟩, rfl⟩
            replace hB := ((hB.ext hX7).ext (hFu1 _)).ext hX8
            replace hR2 := ((hR2.ext hX7).ext (hFu1 _)).ext hX8
            refine ⟨(fun _ hI => hI.shrink ((hX7.trans (hFu1 _) (Nat.le_refl _)).trans hX8 (Nat.le_refl _)).old), ?_⟩
            refine WH.yd (i := 10) (by kernel_rfl) (QuietOn.then (QuietOn.blk (QuietOn.then (QuietOn.then (QuietOn.blk (QuietOn.then (QuietOn.bodyD (by kernel_rfl)))))))) rfl (Yd.move rfl) rfl ?_
            refine WH.yd (i := 11) (by kernel_rfl) (QuietOn.then (QuietOn.blk (QuietOn.then (QuietOn.then (QuietOn.blk (QuietOn.then (QuietOn.bodyD (by kernel_rfl)))))))) rfl (Yd.extract rfl rfl) rfl ?_
            refine WH.yd (i := 12) (by kernel_rfl) (QuietOn.then (QuietOn.blk (QuietOn.then (QuietOn.then (QuietOn.blk (QuietOn.then (QuietOn.bodyD (by kernel_rfl)))))))) rfl (Yd.extract rfl rfl) rfl ?_
            refine WH.yd (i := 13) (by kernel_rfl) (QuietOn.then (QuietOn.blk (QuietOn.then (QuietOn.then (QuietOn.blk (QuietOn.then (QuietOn.bodyD (by kernel_rfl)))))))) rfl (Yd.assign rfl) rfl ?_
            refine WH.yd (i := 14) (by kernel_rfl) (QuietOn.then (QuietOn.blk (QuietOn.then (QuietOn.then (QuietOn.blk (QuietOn.then (QuietOn.bodyD (by kernel_rfl)))))))) rfl (Yd.assign rfl) rfl ?_
            refine WH.nil (by kernel_rfl) ?_
            exact WP.join _ ⟨hkn, hB, hR2⟩ (fun aa ww h => at_fr h ⟨rfl, rfl, rfl, rfl, rfl, rfl, rfl, rfl, rfl, trivial⟩)
      · skip
        refine WC.seqJ (fun _ : Imm => [(4, pt b4), (5, pt bq), (6, nt (setTo (fun i => !canBreak p i false) k)), (7, nt (setTo (fun i => canBreak p i true) k)), (8, nt k), (9, pt b9), (11, .bool (canBreak p k false)), (20, .agg (sidesC p p.bathers.length).toArray), (21, nt k)]) (fun _ => [(b9, .cells (List.toArray [ruleV (sideR p k false), ruleV (sideR p k true)]) 89 (0, 0)), (b4, .cells (List.toArray [it 0]) 30 (0, 0))]) (fun y => y) (fun y => k < p.bathers.length ∧ BeachAt y bq p (.slice a1 p.bathers.length c1) (.slice a2 p.claims.length c2) ∧ PostR y p a1 p.bathers.length a2 p.claims.length) ?_ ?_
        · clear hB hR2
          rintro D5 ⟨hkn, hB, hR2⟩
          have hla := setTo_lt (fun i => !canBreak p i false) k
          have hls := setTo_lt (fun i => canBreak p i true) k
          have hpw : 2 ^ k ≤ 2 ^ 4 := Nat.pow_le_pow_right (by omega) (by omega)
          have hal : (selA p (everyS p)).length ≤ 8 := by have := selR_len p (everyS p) p.claims.length; unfold selA; omega
          refine WC.seq ?_
          refine WC.ofFr [(4, _), (5, _), (6, _), (7, _), (8, _), (9, _), (11, _), (20, _), (21, _)] ⟨rfl, rfl, rfl, rfl, rfl, rfl, rfl, rfl, rfl, trivial⟩ ?_
          refine WC.region ?_
          refine WL.yd (Yd.move rfl) rfl ?_
          refine WL.yd (Yd.not rfl) rfl ?_
          refine WL.nil ?_
          refine WP.thenC ?_
          refine WC.cond rfl (fun c47 => ?_) (fun c47 => ?_)
          · try simp only [zq1, zq2, zq3, zq4, zq5, zq6, zq7, zq8] at c47
            have hcb : canBreak p k false = false := c47
            refine WC.ofFr [(4, _), (5, _), (6, _), (7, _), (8, _), (9, _), (20, _), (21, _)] ⟨rfl, rfl, rfl, rfl, rfl, rfl, rfl, rfl, trivial⟩ ?_
            refine WC.region ?_
            refine WL.yd (Yd.move rfl) rfl ?_
            refine WL.yd (Yd.move rfl) rfl ?_
            refine WL.yd (Yd.shl rfl rfl (by omega) (shlN_w k (by omega))) rfl ?_
            refine WL.yd (Yd.orN (a := (setTo (fun i => !canBreak p i false) k)) (b := 2 ^ k) (by omega) (by omega) rfl rfl) rfl ?_
            refine WL.yd (Yd.assign rfl) rfl ?_
            refine WL.nil ?_
            first
              | (have e1 := setTo_yes (f := fun i => !canBreak p i false) (by show (!canBreak p k false) = true; rw [hcb]; rfl)
                 refine WP.join _ ⟨hkn, hB, hR2⟩ (fun aa ww h => ?_)
                 rw [e1, ← or_pow hla]
                 exact at_fr h ⟨rfl, rfl, rfl, rfl, rfl, rfl, rfl, rfl, trivial⟩)
              | (have e1 := setTo_no (f := fun i => !canBreak p i false) (by show (!canBreak p k false) = false; rw [hcb]; rfl)
                 refine WP.join _ ⟨hkn, hB, hR2⟩ (fun aa ww h => ?_)
                 rw [e1]
                 exact at_fr h ⟨rfl, rfl, rfl, rfl, rfl, rfl, rfl, rfl, trivial⟩)
          · try simp only [zq1, zq2, zq3, zq4, zq5, zq6, zq7, zq8] at c47
            have hcb : canBreak p k false = true := by simpa using c47
            refine WC.skip ?_
            first
              | (have e1 := setTo_yes (f := fun i => !canBreak p i false) (by show (!canBreak p k false) = true; rw [hcb]; rfl)
                 refine WP.join _ ⟨hkn, hB, hR2⟩ (fun aa ww h => ?_)
                 rw [e1, ← or_pow hla]
                 exact at_fr h ⟨rfl, rfl, rfl, rfl, rfl, rfl, rfl, rfl, trivial⟩)
              | (have e1 := setTo_no (f := fun i => !canBreak p i false) (by show (!canBreak p k false) = false; rw [hcb]; rfl)
                 refine WP.join _ ⟨hkn, hB, hR2⟩ (fun aa ww h => ?_)
                 rw [e1]
                 exact at_fr h ⟨rfl, rfl, rfl, rfl, rfl, rfl, rfl, rfl, trivial⟩)
        · skip
          refine WC.ofFr [(8, _), (9, _), (4, _), (5, _), (6, _), (7, _), (20, _), (21, _)] ⟨rfl, rfl, rfl, rfl, rfl, rfl, rfl, rfl, trivial⟩ ?_
          refine WC.drawH [_, _] (by kernel_rfl) (fun _ hI => hI) ?_
          refine WH.yd (i := 0) (by kernel_rfl) (QuietOn.then (QuietOn.then (QuietOn.blk (QuietOn.then (QuietOn.then (QuietOn.blk (QuietOn.then (QuietOn.bodyD (by kernel_rfl))))))))) rfl (Yd.move rfl) rfl ?_
          refine WH.yd (i := 1) (by kernel_rfl) (QuietOn.then (QuietOn.then (QuietOn.blk (QuietOn.then (QuietOn.then (QuietOn.blk (QuietOn.then (QuietOn.bodyD (by kernel_rfl))))))))) rfl (Yd.move rfl) rfl ?_
          refine WH.yd (i := 2) (by kernel_rfl) (QuietOn.then (QuietOn.then (QuietOn.blk (QuietOn.then (QuietOn.then (QuietOn.blk (QuietOn.then (QuietOn.bodyD (by kernel_rfl))))))))) rfl (Yd.move rfl) rfl ?_
          refine WH.yd (i := 5) (by kernel_rfl) (QuietOn.then (QuietOn.then (QuietOn.blk (QuietOn.then (QuietOn.then (QuietOn.blk (QuietOn.then (QuietOn.bodyD (by kernel_rfl))))))))) rfl (Yd.indexA Try.underlying89 Try.sizeOf88 rfl rfl (by omega) (by omega)) rfl ?_
          refine WH.yd (i := 6) (by kernel_rfl) (QuietOn.then (QuietOn.then (QuietOn.blk (QuietOn.then (QuietOn.then (QuietOn.blk (QuietOn.then (QuietOn.bodyD (by kernel_rfl))))))))) rfl (Yd.load1 Try.isAgg88 rfl (by first | exact Rd.own (k := 0) rfl rfl | exact Rd.own (k := 1) rfl rfl | exact (Rd.imm hB rfl))) rfl ?_
          refine WH.two (i := 3) (j := 7) (by kernel_rfl) ?_ ?_
          · refine WHo.so rfl (SO.callP Try.call64 rfl (fun w hI => every_g p a1 _ c1 a2 _ c2 bq _ _ hB hR2 hI.imm hv)) rfl ?_
            rintro _ _ _ ⟨rfl, rfl, rfl⟩
            refine ⟨(fun _ hI => hI.drop 0), ?_⟩
            refine WH.two (i := 4) (j := 7) (by kernel_rfl) ?_ ?_
            · refine WHo.so rfl (SO.news (Enters.func Try.call63 rfl) (fun w2 hI => rules_w w p a1 _ c1 a2 _ c2 bq _ w2 hB hR2 hI.imm hv (everyS p) hI.keep.size)) rfl ?_
              rintro _ D7 _ ⟨_, hX7, ⟨o, rfl, ho, rfl⟩, rfl⟩
              refine ⟨(fun _ hI => (Inv.left (l1 := [_, _]) (hI.drop 0)).shrink hX7.old), ?_⟩
              refine WH.one (i := 7) (by kernel_rfl) (WHo.so rfl (SO.buildSlice Try.underlying97 Try.sizeOf88 Try.zeroValue88 rfl rfl rfl rfl (cs := [_]) rfl) rfl ?_)
              rintro _ _ _ ⟨b41, hb41, rfl, rfl, rfl⟩ -- NEW
              refine ⟨(fun _ hI => (Inv.left (l1 := [_, _]) (hI.drop 1)).shrink hX7.old), ?_⟩
              refine WH.one (i := 8) (by kernel_rfl) (WHo.so rfl (SO.appendOw (o := o) (len := (selA p (everyS p)).length) (n := 1) (xs := (selA p (everyS p)).flatMap ruleC) (size := 1) [_] [_, _] [] rfl rfl Try.underlying97 Try.sizeOf88 Try.typeInfo88 Try.zeroValue88 rfl rfl rfl rfl ⟨rfl, .inr ⟨_, _, _, rfl, RdN.own (k := 0) (n := 1) rfl rfl⟩⟩ (oneB_spec rfl) ho (flat_len ruleC_len _) (by omega) (by show (2 * (_ + _) + 1000) * 16 ≤ 2 ^ 48; omega) (by omega)) rfl ?_)
              rintro _ _ _ ⟨u1, hu1, rfl, rfl, rfl⟩
              have hbu1 := hu1.1
              refine ⟨(fun _ hI => (Inv.left (l1 := [_, _]) hI).shrink hX7.old), ?_⟩
              refine WH.freezeK 2 rfl (fun hnu1 => ?_)
              have hFu1 := fun o => (DExt.refl w D7).add (o := o) hnu1 hbu1
              refine WH.one (i := 9) (by kernel_rfl) (WHo.so rfl (SO.makes (Enters.func Try.call62 rfl) (fun w hI => bounds_g p a1 _ c1 a2 _ c2 bq _ _ ((hB.ext hX7).ext (hFu1 _)) ((hR2.ext hX7).ext (hFu1 _)) hI.imm hv ((selA p (everyS p)) ++ [sideR p k false]) (some ⟨u1.b, 0, none⟩) _ u1.cap (rules_snoc (Imm.add_self _ _ _)) (by omega) ((allR_in hv).app (RulesP.one (sideR_in hkn false))))) rfl ?_)
              rintro _ D8 _ ⟨hX8, ⟨es, clock, bm, rfl, hbm, hM⟩, rfl⟩
              replace hB := ((hB.ext hX7).ext (hFu1 _)).ext hX8
              replace hR2 := ((hR2.ext hX7).ext (hFu1 _)).ext hX8
              refine ⟨(fun _ hI => hI.shrink ((hX7.trans (hFu1 _) (Nat.le_refl _)).trans hX8 (Nat.le_refl _)).old), ?_⟩
              refine WH.yd (i := 10) (by kernel_rfl) (QuietOn.then (QuietOn.then (QuietOn.blk (QuietOn.then (QuietOn.then (QuietOn.blk (QuietOn.then (QuietOn.bodyD (by kernel_rfl))))))))) rfl (Yd.move rfl) rfl ?_
              refine WH.yd (i := 11) (by kernel_rfl) (QuietOn.then (QuietOn.then (QuietOn.blk (QuietOn.then (QuietOn.then (QuietOn.blk (QuietOn.then (QuietOn.bodyD (by kernel_rfl))))))))) rfl (Yd.extract rfl rfl) rfl ?_
              refine WH.yd (i := 12) (by kernel_rfl) (QuietOn.then (QuietOn.then (QuietOn.blk (QuietOn.then (QuietOn.then (QuietOn.blk (QuietOn.then (QuietOn.bodyD (by kernel_rfl))))))))) rfl (Yd.extract rfl rfl) rfl ?_
              refine WH.yd (i := 13) (by kernel_rfl) (QuietOn.then (QuietOn.then (QuietOn.blk (QuietOn.then (QuietOn.then (QuietOn.blk (QuietOn.then (QuietOn.bodyD (by kernel_rfl))))))))) rfl (Yd.assign rfl) rfl ?_
              refine WH.yd (i := 14) (by kernel_rfl) (QuietOn.then (QuietOn.then (QuietOn.blk (QuietOn.then (QuietOn.then (QuietOn.blk (QuietOn.then (QuietOn.bodyD (by kernel_rfl))))))))) rfl (Yd.assign rfl) rfl ?_
              refine WH.nil (by kernel_rfl) ?_
              exact WP.join _ ⟨hkn, hB, hR2⟩ (fun aa ww h => at_fr h ⟨rfl, rfl, rfl, rfl, rfl, rfl, rfl, rfl, rfl, trivial⟩)
            · refine WHo.so rfl (SO.buildSlice Try.underlying97 Try.sizeOf88 Try.zeroValue88 rfl rfl rfl rfl (cs := [_]) rfl) rfl ?_
              rintro _ _ _ ⟨b41, hb41, rfl, rfl, rfl⟩ -- NEW
              refine ⟨(fun _ hI => hI.drop 1), ?_⟩
              refine WH.one (i := 4) (by kernel_rfl) (WHo.so rfl (SO.news (Enters.func Try.call63 rfl) (fun w2 hI => rules_w w p a1 _ c1 a2 _ c2 bq _ w2 hB hR2 hI.imm hv (everyS p) hI.keep.size)) rfl ?_)
              rintro _ D7 _ ⟨_, hX7, ⟨o, rfl, ho, rfl⟩, rfl⟩
              refine ⟨(fun _ hI => (Inv.left (l1 := [_, _]) (hI.drop 1)).shrink hX7.old), ?_⟩
              refine WH.one (i := 8) (by kernel_rfl) (WHo.so rfl (SO.appendOw (o := o) (len := (selA p (everyS p)).length) (n := 1) (xs := (selA p (everyS p)).flatMap ruleC) (size := 1) [_] [_, _] [] rfl rfl Try.underlying97 Try.sizeOf88 Try.typeInfo88 Try.zeroValue88 rfl rfl rfl rfl ⟨rfl, .inr ⟨_, _, _, rfl, RdN.own (k := 0) (n := 1) rfl rfl⟩⟩ (oneB_spec rfl) ho (flat_len ruleC_len _) (by omega) (by show (2 * (_ + _) + 1000) * 16 ≤ 2 ^ 48; omega) (by omega)) rfl ?_)
              rintro _ _ _ ⟨u1, hu1, rfl, rfl, rfl⟩
              have hbu1 := hu1.1
              refine ⟨(fun _ hI => (Inv.left (l1 := [_, _]) hI).shrink hX7.old), ?_⟩
              refine WH.freezeK 2 rfl (fun hnu1 => ?_)
              have hFu1 := fun o => (DExt.refl w D7).add (o := o) hnu1 hbu1
              refine WH.one (i := 9) (by kernel_rfl) (WHo.so rfl (SO.makes (Enters.func Try.call62 rfl) (fun w hI => bounds_g p a1 _ c1 a2 _ c2 bq _ _ ((hB.ext hX7).ext (hFu1 _)) ((hR2.ext hX7).ext (hFu1 _)) hI.imm hv ((selA p (everyS p)) ++ [sideR p k false]) (some ⟨u1.b, 0, none⟩) _ u1.cap (rules_snoc (Imm.add_self _ _ _)) (by omega) ((allR_in hv).app (RulesP.one (sideR_in hkn false))))) rfl ?_)
              rintro _ D8 _ ⟨hX8, ⟨es, clock, bm, rfl, hbm, hM⟩, rfl⟩
              replace hB := ((hB.ext hX7).ext (hFu1 _)).ext hX8
              replace hR2 := ((hR2.ext hX7).ext (hFu1 _)).ext hX8
              refine ⟨(fun _ hI => hI.shrink ((hX7.trans (hFu1 _) (Nat.le_refl _)).trans hX8 (Nat.le_refl _)).old), ?_⟩
              refine WH.yd (i := 10) (by kernel_rfl) (QuietOn.then (QuietOn.then (QuietOn.blk (QuietOn.then (QuietOn.then (QuietOn.blk (QuietOn.then (QuietOn.bodyD (by kernel_rfl))))))))) rfl (Yd.move rfl) rfl ?_
              refine WH.yd (i := 11) (by kernel_rfl) (QuietOn.then (QuietOn.then (QuietOn.blk (QuietOn.then (QuietOn.then (QuietOn.blk (QuietOn.then (QuietOn.bodyD (by kernel_rfl))))))))) rfl (Yd.extract rfl rfl) rfl ?_
              refine WH.yd (i := 12) (by kernel_rfl) (QuietOn.then (QuietOn.then (QuietOn.blk (QuietOn.then (QuietOn.then (QuietOn.blk (QuietOn.then (QuietOn.bodyD (by kernel_rfl))))))))) rfl (Yd.extract rfl rfl) rfl ?_
              refine WH.yd (i := 13) (by kernel_rfl) (QuietOn.then (QuietOn.then (QuietOn.blk (QuietOn.then (QuietOn.then (QuietOn.blk (QuietOn.then (QuietOn.bodyD (by kernel_rfl))))))))) rfl (Yd.assign rfl) rfl ?_
              refine WH.yd (i := 14) (by kernel_rfl) (QuietOn.then (QuietOn.then (QuietOn.blk (QuietOn.then (QuietOn.then (QuietOn.blk (QuietOn.then (QuietOn.bodyD (by kernel_rfl))))))))) rfl (Yd.assign rfl) rfl ?_
              refine WH.nil (by kernel_rfl) ?_
              exact WP.join _ ⟨hkn, hB, hR2⟩ (fun aa ww h => at_fr h ⟨rfl, rfl, rfl, rfl, rfl, rfl, rfl, rfl, rfl, trivial⟩)
          · refine WHo.so rfl (SO.buildSlice Try.underlying97 Try.sizeOf88 Try.zeroValue88 rfl rfl rfl rfl (cs := [_]) rfl) rfl ?_
            rintro _ _ _ ⟨b41, hb41, rfl, rfl, rfl⟩ -- NEW
            refine ⟨(fun _ hI => hI.drop 1), ?_⟩
            refine WH.one (i := 3) (by kernel_rfl) (WHo.so rfl (SO.callP Try.call64 rfl (fun w hI => every_g p a1 _ c1 a2 _ c2 bq _ _ hB hR2 hI.imm hv)) rfl ?_)
            rintro _ _ _ ⟨rfl, rfl, rfl⟩
            refine ⟨(fun _ hI => hI.drop 1), ?_⟩
            refine WH.one (i := 4) (by kernel_rfl) (WHo.so rfl (SO.news (Enters.func Try.call63 rfl) (fun w2 hI => rules_w w p a1 _ c1 a2 _ c2 bq _ w2 hB hR2 hI.imm hv (everyS p) hI.keep.size)) rfl ?_)
            rintro _ D7 _ ⟨_, hX7, ⟨o, rfl, ho, rfl⟩, rfl⟩
            refine ⟨(fun _ hI => (Inv.left (l1 := [_, _]) (hI.drop 1)).shrink hX7.old), ?_⟩
            refine WH.one (i := 8) (by kernel_rfl) (WHo.so rfl (SO.appendOw (o := o) (len := (selA p (everyS p)).length) (n := 1) (xs := (selA p (everyS p)).flatMap ruleC) (size := 1) [_] [_, _] [] rfl rfl Try.underlying97 Try.sizeOf88 Try.typeInfo88 Try.zeroValue88 rfl rfl rfl rfl ⟨rfl, .inr ⟨_, _, _, rfl, RdN.own (k := 0) (n := 1) rfl rfl⟩⟩ (oneB_spec rfl) ho (flat_len ruleC_len _) (by omega) (by show (2 * (_ + _) + 1000) * 16 ≤ 2 ^ 48; omega) (by omega)) rfl ?_)
            rintro _ _ _ ⟨u1, hu1, rfl, rfl, rfl⟩
            have hbu1 := hu1.1
            refine ⟨(fun _ hI => (Inv.left (l1 := [_, _]) hI).shrink hX7.old), ?_⟩
            refine WH.freezeK 2 rfl (fun hnu1 => ?_)
            have hFu1 := fun o => (DExt.refl w D7).add (o := o) hnu1 hbu1
            refine WH.one (i := 9) (by kernel_rfl) (WHo.so rfl (SO.makes (Enters.func Try.call62 rfl) (fun w hI => bounds_g p a1 _ c1 a2 _ c2 bq _ _ ((hB.ext hX7).ext (hFu1 _)) ((hR2.ext hX7).ext (hFu1 _)) hI.imm hv ((selA p (everyS p)) ++ [sideR p k false]) (some ⟨u1.b, 0, none⟩) _ u1.cap (rules_snoc (Imm.add_self _ _ _)) (by omega) ((allR_in hv).app (RulesP.one (sideR_in hkn false))))) rfl ?_)
            rintro _ D8 _ ⟨hX8, ⟨es, clock, bm, rfl, hbm, hM⟩, rfl⟩
            replace hB := ((hB.ext hX7).ext (hFu1 _)).ext hX8
            replace hR2 := ((hR2.ext hX7).ext (hFu1 _)).ext hX8
            refine ⟨(fun _ hI => hI.shrink ((hX7.trans (hFu1 _) (Nat.le_refl _)).trans hX8 (Nat.le_refl _)).old), ?_⟩
            refine WH.yd (i := 10) (by kernel_rfl) (QuietOn.then (QuietOn.then (QuietOn.blk (QuietOn.then (QuietOn.then (QuietOn.blk (QuietOn.then (QuietOn.bodyD (by kernel_rfl))))))))) rfl (Yd.move rfl) rfl ?_
            refine WH.yd (i := 11) (by kernel_rfl) (QuietOn.then (QuietOn.then (QuietOn.blk (QuietOn.then (QuietOn.then (QuietOn.blk (QuietOn.then (QuietOn.bodyD (by kernel_rfl))))))))) rfl (Yd.extract rfl rfl) rfl ?_
            refine WH.yd (i := 12) (by kernel_rfl) (QuietOn.then (QuietOn.then (QuietOn.blk (QuietOn.then (QuietOn.then (QuietOn.blk (QuietOn.then (QuietOn.bodyD (by kernel_rfl))))))))) rfl (Yd.extract rfl rfl) rfl ?_
            refine WH.yd (i := 13) (by kernel_rfl) (QuietOn.then (QuietOn.then (QuietOn.blk (QuietOn.then (QuietOn.then (QuietOn.blk (QuietOn.then (QuietOn.bodyD (by kernel_rfl))))))))) rfl (Yd.assign rfl) rfl ?_
            refine WH.yd (i := 14) (by kernel_rfl) (QuietOn.then (QuietOn.then (QuietOn.blk (QuietOn.then (QuietOn.then (QuietOn.blk (QuietOn.then (QuietOn.bodyD (by kernel_rfl))))))))) rfl (Yd.assign rfl) rfl ?_
            refine WH.nil (by kernel_rfl) ?_
            exact WP.join _ ⟨hkn, hB, hR2⟩ (fun aa ww h => at_fr h ⟨rfl, rfl, rfl, rfl, rfl, rfl, rfl, rfl, rfl, trivial⟩)
  · try simp only [zq1, zq2, zq3, zq4, zq5, zq6, zq7, zq8] at c22
    refine WC.exit ?_
    refine WP.thenExit ?_
    refine WP.thenExit ?_
    refine WP.blkHit ?_
    refine WP.thenC ?_
    refine WC.seq ?_
    obtain rfl : k = p.bathers.length := by omega
    refine WC.ofFr [(4, _), (6, _), (7, _)] ⟨rfl, rfl, rfl, trivial⟩ ?_
    refine WC.region ?_
    refine WL.yd (Yd.move rfl) rfl ?_
    refine WL.yd (Yd.move rfl) rfl ?_
    refine WL.yd (Yd.assign rfl) rfl ?_
    refine WL.yd (Yd.assign rfl) rfl ?_
    refine WL.so (SO.store 0 rfl Try.sizeOf30 rfl rfl rfl rfl (Nat.le_of_ble_eq_true rfl) (oneB_spec rfl)) rfl ?_
    rintro _ _ _ ⟨rfl, rfl, rfl⟩
    refine WL.nil ?_
    refine WP.thenC ?_
    refine WC.ret ?_
    refine WP.endD [_, _, _] [_, _, _] rfl rfl Try.call60 (fun w hI => idle60 _ _) Try.results21 ⟨(RV.tmp rfl), (RV.tmp rfl), (RV.cell1 Try.isAgg30 rfl (by first | exact Rd.own (k := 0) rfl rfl | exact (Rd.imm hB rfl))), trivial⟩ (fun w hI => ⟨congrArg Ending.returned (by rw [hO]; rfl), hI.keep⟩)

theorem Breaks_g (p : Post) (a1 : Option Addr) (n1 c1 : Nat) (a2 : Option Addr) (n2 c2 : Nat) (D : Imm) (w : World) (hR : PostR D p a1 n1 a2 n2) (hH : Holds D w) : Gives Try.prog 21 [.agg #[it p.post.lo, it p.post.hi, .slice a1 n1 c1, .slice a2 n2 c2]] w (.tuple #[it (BreaksOut p).1, it (BreaksOut p).2.1, it (BreaksOut p).2.2]) := by
  cases hv : postB p with
  | false => exact Breaks_1 p a1 n1 c1 a2 n2 c2 D w hR hH hv
  | true =>
    cases hok : okA p with
    | false => exact Breaks_3 p a1 n1 c1 a2 n2 c2 D w hR hH hv hok
    | true => exact Breaks_ok p a1 n1 c1 a2 n2 c2 D w hR hH hv hok

end Go.Proofs.Ytkhmmefgllbobaa
