import Derived.Test.YtpnbkdlejfmbeaaGreatYZ2
set_option linter.unusedSimpArgs false
set_option linter.unusedVariables false
set_option linter.all false
set_option maxRecDepth 100000
set_option maxHeartbeats 1000000
namespace Go.Proofs.YtpnbkdlejfmbeaaGreat
open Go.W Go.Ti

theorem more_g (X : Till) (a1 : Option Addr) (n1 c1 : Nat) (D : Imm) (w : World) (hS : SlL D 5 (X.tk.l.map tickC) a1 n1) (hH : Holds D w) (l : List Ent) (ab : Option Addr) (nb cb : Nat) (hL : SlL D 3 (l.map entC) ab nb) (m b : Nat) (hm : m < 256) (hb : b < 256) (hlo : max n1 nb ≤ 60) (h1 : tillB X = true) (h2 : 0 < n1) (h3 : nb ≤ 20) (h4 : l.all (entB X) = true) (ww : Bool) (hww : ww = decide (m % 2 = 1)) (hE : tksE X.tk true = 10) (hE2 : tksE (narX X ww (m % n1)).tk true = 10) : Gives Tryz.prog 7 [.agg #[it X.tk.huts, .slice a1 n1 c1, it X.price, it X.fine, it X.wait], .slice ab nb cb, .int .u8 m, .int .u8 b] w (.bool true) := by
  unfold Gives
  have hR : TksR D X.tk a1 n1 := ⟨hS, by omega⟩
  have hB : BookR D l ab nb := ⟨hL, by omega⟩
  obtain rfl := hR.tick.len'
  have hl1 := hR.len
  obtain rfl := hB.ent.len'
  have han : (m % X.tk.l.length) < X.tk.l.length := Nat.mod_lt _ h2
  have hnum := tillB_num h1
  have h5 := (tks_num hnum.1).2.1
  have htn := (tks_num hnum.1).2.2 (m % X.tk.l.length) han
  have his : isT X.tk (((m % X.tk.l.length) : Nat) : Int) = true := decide_eq_true (by omega)
  have hisN : isT (narX X ww (m % X.tk.l.length)).tk (((m % X.tk.l.length) : Nat) : Int) = true := by unfold isT; rw [nar_len]; exact his
  have hvN : tksB (narX X ww (m % X.tk.l.length)).tk = true := nar_valid hnum.1 han
  have hbN : tillB (narX X ww (m % X.tk.l.length)) = true := tillB_of hvN hnum.2.1 hnum.2.2.1 hnum.2.2.2
  have hbM : tillB (moreX X (b : Int)) = true := more_valid h1 (by omega)
  have hEM : tksE (moreX X (b : Int)).tk true = 10 := hE
  refine enter Tryz.func7 rfl 320 Tryz.ntmps7 (zqb rfl) (Inv.start hH) ?_
  refine WC.seq (WC.ofFr [(0, _), (1, _), (2, _), (3, _)] ⟨rfl, rfl, rfl, rfl, trivial⟩ (WC.region ?_))
  refine WL.so (SO.box rfl rfl) rfl ?_
  rintro _ _ _ ⟨b4, hb4, rfl, rfl, rfl⟩
  refine WL.yd (Yd.assign rfl) rfl ?_
  refine WL.nil (WP.thenC (WC.seq (WC.seq (WC.ofFr [(8, _), (4, _), (1, _), (2, _), (3, _)] ⟨rfl, rfl, rfl, rfl, rfl, trivial⟩ (WC.region ?_)))))
  refine WL.yd (Yd.loadN Tryz.isAgg26 Tryz.sizeOf26 rfl (vs := [_, _, _, _, _]) rfl (RdN.own (k := 0) (n := 5) rfl rfl)) rfl ?_
  refine WL.yd (Yd.move rfl) rfl ?_
  refine WL.so (SO.callP Tryz.call24 rfl (fun w hI => long_g X a1 ab _ c1 _ cb _)) rfl ?_
  rintro _ _ _ ⟨rfl, rfl, rfl⟩
  refine WL.know 38 (.bool false) rfl (congrArg Value.bool (decide_eq_false (by (try dsimp only); omega))) ?_
  refine WL.yd (Yd.move rfl) rfl ?_
  refine WL.ydg rfl (Yd.loadN Tryz.isAgg26 Tryz.sizeOf26 rfl (vs := [_, _, _, _, _]) rfl (RdN.own (k := 0) (n := 5) rfl rfl)) rfl ?_
  refine WL.sog rfl (SO.callP Tryz.call25 rfl (fun w hI => till13_g X a1 _ c1 _ _ hR hI.imm)) rfl ?_
  rintro _ _ _ ⟨rfl, rfl, rfl⟩
  refine WL.know 41 (.bool true) rfl (congrArg Value.bool h1) ?_
  refine WL.ydg rfl (Yd.not rfl) rfl ?_
  refine WL.yd (Yd.pickF rfl rfl) rfl ?_
  refine WL.yd (Yd.move rfl) rfl ?_
  refine WL.ydg rfl (Yd.fieldAddr FA26_0 rfl) rfl ?_
  refine WL.ydg rfl (Yd.fieldAddr FA24_1 rfl) rfl ?_
  refine WL.ydg rfl (Yd.load1 Tryz.isAgg22 rfl (Rd.own (k := 0) rfl rfl)) rfl ?_
  refine WL.ydg rfl (Yd.lenS rfl Tryz.underlying22 rfl) rfl ?_
  refine WL.ydg rfl (Yd.eql rfl rfl) rfl ?_
  refine WL.know 49 (.bool false) rfl (congrArg Value.bool (decide_eq_false (by (try dsimp only); omega))) ?_
  refine WL.yd (Yd.pickF rfl rfl) rfl ?_
  refine WL.yd (Yd.move rfl) rfl ?_
  refine WL.ydg rfl (Yd.move rfl) rfl ?_
  refine WL.ydg rfl (Yd.lenS rfl Tryz.underlying38 rfl) rfl ?_
  refine WL.ydg rfl (Yd.gtr rfl rfl) rfl ?_
  refine WL.know 54 (.bool false) rfl (congrArg Value.bool (decide_eq_false (by (try dsimp only); omega))) ?_
  refine WL.yd (Yd.pickF rfl rfl) rfl ?_
  refine WL.yd (Yd.move rfl) rfl ?_
  refine WL.ydg rfl (Yd.loadN Tryz.isAgg26 Tryz.sizeOf26 rfl (vs := [_, _, _, _, _]) rfl (RdN.own (k := 0) (n := 5) rfl rfl)) rfl ?_
  refine WL.ydg rfl (Yd.move rfl) rfl ?_
  refine WL.sog rfl (SO.callP Tryz.call26 rfl (fun w hI => book13_g X a1 _ c1 _ _ hR hI.imm l ab _ cb hB)) rfl ?_
  rintro _ _ _ ⟨rfl, rfl, rfl⟩
  refine WL.know 59 (.bool true) rfl (congrArg Value.bool h4) ?_
  refine WL.ydg rfl (Yd.not rfl) rfl ?_
  refine WL.yd (Yd.pickF rfl rfl) rfl ?_
  refine WL.nil (WP.thenC ?_)
  refine WC.condF rfl ?_
  refine WC.skip (WP.thenC (WC.seq ?_))
  refine WC.freezeN 0 b4 (.cells (List.toArray (tillC X (.slice a1 X.tk.l.length c1))) 26 (0, 0)) rfl rfl hb4 (fun D4 hX4 h4 => ?_)
  replace hR := hR.ext hX4
  replace hB := hB.ext hX4
  refine WC.ofFr [(8, _), (4, _), (1, _), (2, _), (3, _)] ⟨rfl, rfl, rfl, rfl, rfl, trivial⟩ (WC.region ?_)
  refine WL.yd (Yd.move rfl) rfl ?_
  refine WL.yd (Yd.conv Tryz.underlying5 Tryz.underlying3 rfl (wr64 ⟨by omega, by omega⟩)) rfl ?_
  refine WL.yd (Yd.fieldAddr FA26_0 rfl) rfl ?_
  refine WL.yd (Yd.fieldAddr FA24_1 rfl) rfl ?_
  refine WL.yd (Yd.load1 Tryz.isAgg22 rfl (Rd.imm h4 rfl)) rfl ?_
  refine WL.yd (Yd.lenS rfl Tryz.underlying22 rfl) rfl ?_
  refine WL.yd (Yd.remN (i := m) (j := X.tk.l.length) rfl rfl (by omega)) rfl ?_
  refine WL.yd (Yd.assign rfl) rfl ?_
  refine WL.nil (WP.thenC ?_)
  refine WC.seqJ (fun y : Nat × Nat => [(1, .slice ab l.length cb), (2, .int .u8 m), (3, .int .u8 b), (4, pt b4), (9, nt (m % X.tk.l.length)), (10, pt y.1), (11, pt y.2)]) (fun y => [(y.1, .cells (List.toArray (tillC X (.slice a1 X.tk.l.length c1))) 26 (0, 0)), (y.2, .cells (List.toArray (tillC X (.slice a1 X.tk.l.length c1))) 26 (0, 0))]) (fun _ => D4) (fun y => w.heap.size ≤ y.1 ∧ w.heap.size ≤ y.2) ?_ ?_
  · rintro ⟨b10, b11⟩ ⟨hb10, hb11⟩
    dsimp only at hb10 hb11
    refine WC.seq (WC.ofFr [(1, _), (2, _), (3, _), (4, _), (9, _), (10, _), (11, _)] ⟨rfl, rfl, rfl, rfl, rfl, rfl, rfl, trivial⟩ (WC.region ?_))
    refine WL.so (SO.buildSlice0 Tryz.underlying22 Tryz.sizeOf57) rfl ?_
    rintro _ _ _ ⟨b72, hb72, rfl, rfl, rfl⟩
    refine WL.yd (Yd.fieldAddr FA26_0 rfl) rfl ?_
    refine WL.yd (Yd.fieldAddr FA24_1 rfl) rfl ?_
    refine WL.yd (Yd.load1 Tryz.isAgg22 rfl (Rd.imm h4 rfl)) rfl ?_
    refine WL.so (SO.appendSome (o := ⟨b72, 0, []⟩) (len := 0) (n := X.tk.l.length) (xs := ([] : List Tick).flatMap tickC) (ys := X.tk.l.flatMap tickC) (size := 5) [] [_, _] rfl rfl Tryz.underlying22 Tryz.sizeOf57 Tryz.typeInfo57 Tryz.zeroValue57 rfl rfl rfl rfl (hR.tick.rdS tickC_len (fun e => by have h0 := congrArg List.length e; simp only [List.length_nil] at h0; omega)) (fun v hv => by obtain ⟨x, _, hx⟩ := List.mem_flatMap.1 hv; exact tickC_ones x v hx) ⟨hb72, Nat.le_refl 0, rfl⟩ rfl (by show (2 * (_ + _) + 1000) * 40 ≤ 2 ^ 48; omega) (by omega)) rfl ?_
    rintro _ _ _ ⟨u1, hu1, rfl, rfl, rfl⟩
    rw [Nat.zero_add, List.flatMap_nil, List.nil_append]
    refine WL.yd (Yd.fieldAddr FA26_0 rfl) rfl ?_
    refine WL.yd (Yd.fieldAddr FA24_1 rfl) rfl ?_
    refine WL.so (SO.store 1 rfl Tryz.sizeOf22 rfl rfl rfl rfl (zqb rfl) (oneB_spec rfl)) rfl ?_
    rintro _ _ _ ⟨rfl, rfl, rfl⟩
    refine WL.nil (WP.thenC (WC.seq (WC.ofFr [(1, _), (2, _), (3, _), (4, _), (9, _), (10, _), (11, _)] ⟨rfl, rfl, rfl, rfl, rfl, rfl, rfl, trivial⟩ (WC.region ?_))))
    refine WL.yd (Yd.fieldAddr FA26_0 rfl) rfl ?_
    refine WL.yd (Yd.fieldAddr FA24_1 rfl) rfl ?_
    refine WL.yd (Yd.load1 Tryz.isAgg22 rfl (Rd.own (k := 1) rfl rfl)) rfl ?_
    refine WL.yd (Yd.move rfl) rfl ?_
    refine WL.yd (Yd.indexS Tryz.underlying22 Tryz.sizeOf57 rfl rfl (by omega) (by omega) (by first | exact rfl)) rfl ?_
    refine WL.yd (Yd.fieldAddr FA57_2 rfl) rfl ?_
    refine WL.yd (Yd.assign rfl) rfl ?_
    refine WL.nil (WP.thenC (WC.seq (WC.seq (WC.ofFr [(12, _), (1, _), (2, _), (3, _), (4, _), (9, _), (10, _), (11, _)] ⟨rfl, rfl, rfl, rfl, rfl, rfl, rfl, rfl, trivial⟩ (WC.region ?_)))))
    refine WL.yd (Yd.move rfl) rfl ?_
    refine WL.yd (Yd.rem (i := (m : Int)) (j := 2) rfl rfl (by omega) (by omega)) rfl ?_
    refine WL.yd (Yd.eql rfl rfl) rfl ?_
    refine WL.nil (WP.thenC ?_)
    refine WC.cond rfl (fun c87 => ?_) (fun c87 => ?_)
    · try simp only [zq1, zq2, zq3, zq4, zq5, zq6, zq7, zq8] at c87
      refine WC.ofFr [(12, _), (1, _), (3, _), (4, _), (9, _), (10, _), (11, _)] ⟨rfl, rfl, rfl, rfl, rfl, rfl, rfl, trivial⟩ (WC.region ?_)
      refine WL.yd (Yd.fieldAddr FA26_0 rfl) rfl ?_
      refine WL.yd (Yd.fieldAddr FA24_1 rfl) rfl ?_
      refine WL.yd (Yd.load1 Tryz.isAgg22 rfl (Rd.own (k := 1) rfl rfl)) rfl ?_
      refine WL.yd (Yd.move rfl) rfl ?_
      refine WL.yd (Yd.indexS Tryz.underlying22 Tryz.sizeOf57 rfl rfl (by omega) (by omega) (by first | exact rfl)) rfl ?_
      refine WL.yd (Yd.fieldAddr FA57_0 rfl) rfl ?_
      refine WL.yd (Yd.assign rfl) rfl ?_
      refine WL.nil (WP.thenC ?_)
      refine WC.seqJ (fun _ : Unit => [(1, .slice ab l.length cb), (3, .int .u8 b), (4, pt b4), (9, nt (m % X.tk.l.length)), (10, pt b10), (11, pt b11)]) (fun _ => [(u1.b, .cells (List.toArray ((X.tk.l.set (m % X.tk.l.length) (narT ww (gt X.tk.l (m % X.tk.l.length)))).flatMap tickC ++ u1.rest)) 57 (0, 0)), (b10, .cells (List.toArray (tillC X (.slice (some ⟨u1.b, 0, none⟩) X.tk.l.length u1.cap))) 26 (0, 0)), (b11, .cells (List.toArray (tillC X (.slice a1 X.tk.l.length c1))) 26 (0, 0))]) (fun _ => D4) (fun _ => True) ?_ ?_
      · rintro ⟨⟩ -
        refine WC.seq ?_
        refine WC.freezeN 0 u1.b (.cells (List.toArray ((narX X ww (m % X.tk.l.length)).tk.l.flatMap tickC ++ u1.rest)) 57 (0, 0)) rfl rfl hu1.1 (fun D5 hX5 hU => ?_)
        refine WC.freezeN 0 b10 (.cells (List.toArray (tillC X (.slice (some ⟨u1.b, 0, none⟩) X.tk.l.length u1.cap))) 26 (0, 0)) rfl rfl hb10 (fun D6 hX6 h10 => ?_)
        have hX7 := hX5.trans hX6 (Nat.le_refl _)
        replace hR := hR.ext hX7
        replace hB := hB.ext hX7
        replace h4 := hX7.old _ _ h4
        have hRN : TksR D6 (narX X ww (m % X.tk.l.length)).tk (some ⟨u1.b, 0, none⟩) X.tk.l.length := ⟨by have h9 := SlL.ofBlock tickC_len (hX6.old _ _ hU); rw [nar_len] at h9; exact h9, by omega⟩
        refine WC.ofFr [(1, _), (3, _), (4, _), (9, _), (10, _), (11, _)] ⟨rfl, rfl, rfl, rfl, rfl, rfl, trivial⟩ ?_
        refine WC.drawO [] [(0, true), (1, true), (2, true), (3, true), (4, true), (5, true), (6, true), (7, true), (8, true), (9, true), (10, true), (11, true), (12, true), (13, true), (14, true), (15, false), (16, true), (17, false)] (by kernel_rfl) (by kernel_rfl) (QuietPanic.then QuietPanic.body) (fun _ hI => hI.drop 99) ?_
        refine WA.yd rfl (Yd.fieldAddr FA26_2 rfl) rfl ?_
        refine WA.yd rfl (Yd.load1 Tryz.isAgg3 rfl (Rd.imm h4 rfl)) rfl ?_
        refine WA.yd rfl (Yd.move rfl) rfl ?_
        refine WA.yd rfl (Yd.conv Tryz.underlying5 Tryz.underlying3 rfl (wr64 ⟨by omega, by omega⟩)) rfl ?_
        refine WA.yd rfl (Yd.rem rfl rfl (by omega) (by omega)) rfl ?_
        refine WA.yd rfl (Yd.add rfl rfl (wr64 ⟨by omega, by omega⟩)) rfl ?_
        refine WA.yd rfl (Yd.min2 rfl rfl) rfl ?_
        refine WA.yd rfl (Yd.fieldAddr FA26_3 rfl) rfl ?_
        refine WA.yd rfl (Yd.load1 Tryz.isAgg3 rfl (Rd.imm h4 rfl)) rfl ?_
        refine WA.yd rfl (Yd.move rfl) rfl ?_
        refine WA.yd rfl (Yd.conv Tryz.underlying5 Tryz.underlying3 rfl (wr64 ⟨by omega, by omega⟩)) rfl ?_
        refine WA.yd rfl (Yd.rem rfl rfl (by omega) (by omega)) rfl ?_
        refine WA.yd rfl (Yd.add rfl rfl (wr64 ⟨by omega, by omega⟩)) rfl ?_
        refine WA.yd rfl (Yd.min2 rfl rfl) rfl ?_
        refine WA.yd rfl (Yd.fieldAddr FA26_2 rfl) rfl ?_
        refine WA.so rfl (SO.store 0 rfl Tryz.sizeOf3 rfl rfl rfl rfl (zqb rfl) (oneB_spec rfl)) rfl ?_
        rintro _ _ _ ⟨rfl, rfl, rfl⟩
        refine ⟨fun _ hI => hI.drop 99, ?_⟩
        refine WA.yd rfl (Yd.fieldAddr FA26_3 rfl) rfl ?_
        refine WA.so rfl (SO.store 0 rfl Tryz.sizeOf3 rfl rfl rfl rfl (zqb rfl) (oneB_spec rfl)) rfl ?_
        rintro _ _ _ ⟨rfl, rfl, rfl⟩
        refine ⟨fun _ hI => hI.drop 99, ?_⟩
        refine WA.nil (WP.thenC (WC.seq ?_))
        refine WC.freezeN 0 b11 (.cells (List.toArray (tillC (moreX X (b : Int)) (.slice a1 X.tk.l.length c1))) 26 (0, 0)) rfl rfl hb11 (fun D8 hX8 h11 => ?_)
        replace hR := hR.ext hX8
        replace hRN := hRN.ext hX8
        replace hB := hB.ext hX8
        replace h4 := hX8.old _ _ h4
        replace h10 := hX8.old _ _ h10
        refine WC.ofFr [(1, _), (4, _), (9, _), (10, _), (11, _)] ⟨rfl, rfl, rfl, rfl, rfl, trivial⟩ (WC.region ?_)
        refine WL.yd (Yd.assign rfl) rfl ?_
        refine WL.nil (WP.thenC (WC.seq (WC.ofFr [(13, _), (1, _), (4, _), (9, _), (10, _), (11, _)] ⟨rfl, rfl, rfl, rfl, rfl, rfl, trivial⟩ (WC.region ?_))))
        refine WL.yd (Yd.loadN Tryz.isAgg26 Tryz.sizeOf26 rfl (vs := [_, _, _, _, _]) rfl (by first | exact (RdN.imm (n := 5) h4 rfl) | exact (RdN.imm (n := 5) h10 rfl) | exact (RdN.imm (n := 5) h11 rfl) | exact (RdN.imm (n := 2) h10 rfl))) rfl ?_
        refine WL.yd (Yd.move rfl) rfl ?_
        refine WL.so (SO.callP Tryz.call12 rfl (fun w hI => Gives.cv (.tuple #[spV ⟨0, 0⟩, it 10]) (Fine_g X a1 _ c1 _ _ hR hI.imm ((m % X.tk.l.length) : Nat)) (by rw [fineE.1 (by rw [((spanE_is h1).2 his), hE]; decide), ((spanE_is h1).2 his), hE]; first | done | rfl))) rfl ?_
        rintro _ _ _ ⟨rfl, rfl, rfl⟩
        refine WL.yd (Yd.move rfl) rfl ?_
        refine WL.yd (Yd.extract rfl rfl) rfl ?_
        refine WL.yd (Yd.extract rfl rfl) rfl ?_
        refine WL.so (SO.alloc Tryz.zeroValue33 rfl) rfl ?_
        rintro _ _ _ ⟨b14, hb14, rfl, rfl, rfl⟩
        refine WL.so (SO.store 0 rfl Tryz.sizeOf33 rfl rfl rfl rfl (zqb rfl) (oneB_spec rfl)) rfl ?_
        rintro _ _ _ ⟨rfl, rfl, rfl⟩
        refine WL.yd (Yd.assign rfl) rfl ?_
        refine WL.nil (WP.thenC (WC.seq (WC.ofFr [(15, _), (14, _), (13, _), (1, _), (4, _), (9, _), (10, _), (11, _)] ⟨rfl, rfl, rfl, rfl, rfl, rfl, rfl, rfl, trivial⟩ (WC.region ?_))))
        refine WL.yd (Yd.loadN Tryz.isAgg26 Tryz.sizeOf26 rfl (vs := [_, _, _, _, _]) rfl (by first | exact (RdN.imm (n := 5) h4 rfl) | exact (RdN.imm (n := 5) h10 rfl) | exact (RdN.imm (n := 5) h11 rfl) | exact (RdN.imm (n := 2) h10 rfl))) rfl ?_
        refine WL.yd (Yd.move rfl) rfl ?_
        refine WL.so (SO.callP Tryz.call16 rfl (fun w hI => Gives.cv (.tuple #[spV ⟨0, 0⟩, it 10]) (Back_g X a1 _ c1 _ _ hR hI.imm ((m % X.tk.l.length) : Nat)) (by rw [backE.1 (by rw [((spanE_is h1).2 his), hE]; decide), ((spanE_is h1).2 his), hE]; first | done | rfl))) rfl ?_
        rintro _ _ _ ⟨rfl, rfl, rfl⟩
        refine WL.yd (Yd.move rfl) rfl ?_
        refine WL.yd (Yd.extract rfl rfl) rfl ?_
        refine WL.yd (Yd.extract rfl rfl) rfl ?_
        refine WL.so (SO.alloc Tryz.zeroValue33 rfl) rfl ?_
        rintro _ _ _ ⟨b16, hb16, rfl, rfl, rfl⟩
        refine WL.so (SO.store 0 rfl Tryz.sizeOf33 rfl rfl rfl rfl (zqb rfl) (oneB_spec rfl)) rfl ?_
        rintro _ _ _ ⟨rfl, rfl, rfl⟩
        refine WL.yd (Yd.assign rfl) rfl ?_
        refine WL.nil (WP.thenC (WC.seq (WC.ofFr [(17, _), (16, _), (15, _), (14, _), (13, _), (1, _), (4, _), (9, _), (10, _), (11, _)] ⟨rfl, rfl, rfl, rfl, rfl, rfl, rfl, rfl, rfl, rfl, trivial⟩ (WC.region ?_))))
        refine WL.yd (Yd.loadN Tryz.isAgg26 Tryz.sizeOf26 rfl (vs := [_, _, _, _, _]) rfl (by first | exact (RdN.imm (n := 5) h4 rfl) | exact (RdN.imm (n := 5) h10 rfl) | exact (RdN.imm (n := 5) h11 rfl) | exact (RdN.imm (n := 2) h10 rfl))) rfl ?_
        refine WL.so (SO.callP Tryz.call14 rfl (fun w hI => Gives.cv (.tuple #[spV ⟨0, 0⟩, it 10]) (Fines_g X a1 _ c1 _ _ hR hI.imm) (by rw [finesE_2 h1 (by rw [hE]; decide), hE]; first | done | rfl))) rfl ?_
        rintro _ _ _ ⟨rfl, rfl, rfl⟩
        refine WL.yd (Yd.move rfl) rfl ?_
        refine WL.yd (Yd.extract rfl rfl) rfl ?_
        refine WL.yd (Yd.extract rfl rfl) rfl ?_
        refine WL.so (SO.alloc Tryz.zeroValue33 rfl) rfl ?_
        rintro _ _ _ ⟨b18, hb18, rfl, rfl, rfl⟩
        refine WL.so (SO.store 0 rfl Tryz.sizeOf33 rfl rfl rfl rfl (zqb rfl) (oneB_spec rfl)) rfl ?_
        rintro _ _ _ ⟨rfl, rfl, rfl⟩
        refine WL.yd (Yd.assign rfl) rfl ?_
        refine WL.nil (WP.thenC (WC.seq (WC.ofFr [(19, _), (18, _), (17, _), (16, _), (15, _), (14, _), (13, _), (1, _), (4, _), (9, _), (10, _), (11, _)] ⟨rfl, rfl, rfl, rfl, rfl, rfl, rfl, rfl, rfl, rfl, rfl, rfl, trivial⟩ (WC.region ?_))))
        refine WL.yd (Yd.loadN Tryz.isAgg26 Tryz.sizeOf26 rfl (vs := [_, _, _, _, _]) rfl (by first | exact (RdN.imm (n := 5) h4 rfl) | exact (RdN.imm (n := 5) h10 rfl) | exact (RdN.imm (n := 5) h11 rfl) | exact (RdN.imm (n := 2) h10 rfl))) rfl ?_
        refine WL.yd (Yd.move rfl) rfl ?_
        refine WL.so (SO.callP Tryz.call18 rfl (fun w hI => Check_g X a1 _ c1 _ _ hR hI.imm l ab _ cb hB)) rfl ?_
        rintro _ _ _ ⟨rfl, rfl, rfl⟩
        refine WL.yd (Yd.move rfl) rfl ?_
        refine WL.yd (Yd.extract rfl rfl) rfl ?_
        refine WL.yd (Yd.extract rfl rfl) rfl ?_
        refine WL.yd (Yd.extract rfl rfl) rfl ?_
        refine WL.yd (Yd.assign rfl) rfl ?_
        refine WL.yd (Yd.assign rfl) rfl ?_
        refine WL.yd (Yd.assign rfl) rfl ?_
        refine WL.nil (WP.thenC (WC.seq (WC.seq (WC.ofFr [(22, _), (19, _), (18, _), (17, _), (16, _), (15, _), (14, _), (13, _), (1, _), (4, _), (9, _), (10, _), (11, _)] ⟨rfl, rfl, rfl, rfl, rfl, rfl, rfl, rfl, rfl, rfl, rfl, rfl, rfl, trivial⟩ (WC.region ?_)))))
        refine WL.yd (Yd.move rfl) rfl ?_
        refine WL.yd (Yd.move rfl) rfl ?_
        refine WL.yd (Yd.neq rfl rfl) rfl ?_
        refine WL.know 149 (.bool false) rfl (congrArg Value.bool (by decide)) ?_
        refine WL.yd (Yd.move rfl) rfl ?_
        refine WL.ydg rfl (Yd.move rfl) rfl ?_
        refine WL.ydg rfl (Yd.move rfl) rfl ?_
        refine WL.ydg rfl (Yd.neq rfl rfl) rfl ?_
        refine WL.know 153 (.bool false) rfl (congrArg Value.bool (by decide)) ?_
        refine WL.yd (Yd.pickF rfl rfl) rfl ?_
        refine WL.nil (WP.thenC ?_)
        refine WC.condF rfl ?_
        refine WC.skip (WP.thenC (WC.seq (WC.ofFr [(22, _), (18, _), (16, _), (15, _), (14, _), (13, _), (1, _), (4, _), (9, _), (10, _), (11, _)] ⟨rfl, rfl, rfl, rfl, rfl, rfl, rfl, rfl, rfl, rfl, rfl, trivial⟩ (WC.region ?_))))
        refine WL.yd (Yd.loadN Tryz.isAgg26 Tryz.sizeOf26 rfl (vs := [_, _, _, _, _]) rfl (by first | exact (RdN.imm (n := 5) h4 rfl) | exact (RdN.imm (n := 5) h10 rfl) | exact (RdN.imm (n := 5) h11 rfl) | exact (RdN.imm (n := 2) h10 rfl))) rfl ?_
        refine WL.yd (Yd.move rfl) rfl ?_
        refine WL.so (SO.callP Tryz.call12 rfl (fun w hI => Gives.cv (.tuple #[spV ⟨0, 0⟩, it 10]) (Fine_g (narX X ww (m % X.tk.l.length)) (some ⟨u1.b, 0, none⟩) _ u1.cap _ _ hRN hI.imm ((m % X.tk.l.length) : Nat)) (by rw [fineE.1 (by rw [((spanE_is hbN).2 hisN), hE2]; decide), ((spanE_is hbN).2 hisN), hE2]; first | done | rfl))) rfl ?_
        rintro _ _ _ ⟨rfl, rfl, rfl⟩
        refine WL.yd (Yd.move rfl) rfl ?_
        refine WL.yd (Yd.extract rfl rfl) rfl ?_
        refine WL.yd (Yd.extract rfl rfl) rfl ?_
        refine WL.so (SO.alloc Tryz.zeroValue33 rfl) rfl ?_
        rintro _ _ _ ⟨b23, hb23, rfl, rfl, rfl⟩
        refine WL.so (SO.store 0 rfl Tryz.sizeOf33 rfl rfl rfl rfl (zqb rfl) (oneB_spec rfl)) rfl ?_
        rintro _ _ _ ⟨rfl, rfl, rfl⟩
        refine WL.yd (Yd.assign rfl) rfl ?_
        refine WL.nil (WP.thenC (WC.seq (WC.ofFr [(24, _), (23, _), (22, _), (18, _), (16, _), (15, _), (14, _), (13, _), (1, _), (4, _), (9, _), (10, _), (11, _)] ⟨rfl, rfl, rfl, rfl, rfl, rfl, rfl, rfl, rfl, rfl, rfl, rfl, rfl, trivial⟩ (WC.region ?_))))
        refine WL.yd (Yd.loadN Tryz.isAgg26 Tryz.sizeOf26 rfl (vs := [_, _, _, _, _]) rfl (by first | exact (RdN.imm (n := 5) h4 rfl) | exact (RdN.imm (n := 5) h10 rfl) | exact (RdN.imm (n := 5) h11 rfl) | exact (RdN.imm (n := 2) h10 rfl))) rfl ?_
        refine WL.yd (Yd.move rfl) rfl ?_
        refine WL.so (SO.callP Tryz.call16 rfl (fun w hI => Gives.cv (.tuple #[spV ⟨0, 0⟩, it 10]) (Back_g (narX X ww (m % X.tk.l.length)) (some ⟨u1.b, 0, none⟩) _ u1.cap _ _ hRN hI.imm ((m % X.tk.l.length) : Nat)) (by rw [backE.1 (by rw [((spanE_is hbN).2 hisN), hE2]; decide), ((spanE_is hbN).2 hisN), hE2]; first | done | rfl))) rfl ?_
        rintro _ _ _ ⟨rfl, rfl, rfl⟩
        refine WL.yd (Yd.move rfl) rfl ?_
        refine WL.yd (Yd.extract rfl rfl) rfl ?_
        refine WL.yd (Yd.extract rfl rfl) rfl ?_
        refine WL.so (SO.alloc Tryz.zeroValue33 rfl) rfl ?_
        rintro _ _ _ ⟨b25, hb25, rfl, rfl, rfl⟩
        refine WL.so (SO.store 0 rfl Tryz.sizeOf33 rfl rfl rfl rfl (zqb rfl) (oneB_spec rfl)) rfl ?_
        rintro _ _ _ ⟨rfl, rfl, rfl⟩
        refine WL.yd (Yd.assign rfl) rfl ?_
        refine WL.nil (WP.thenC (WC.seq (WC.ofFr [(26, _), (25, _), (24, _), (23, _), (22, _), (18, _), (16, _), (15, _), (14, _), (13, _), (1, _), (4, _), (9, _), (10, _), (11, _)] ⟨rfl, rfl, rfl, rfl, rfl, rfl, rfl, rfl, rfl, rfl, rfl, rfl, rfl, rfl, rfl, trivial⟩ (WC.region ?_))))
        refine WL.yd (Yd.loadN Tryz.isAgg26 Tryz.sizeOf26 rfl (vs := [_, _, _, _, _]) rfl (by first | exact (RdN.imm (n := 5) h4 rfl) | exact (RdN.imm (n := 5) h10 rfl) | exact (RdN.imm (n := 5) h11 rfl) | exact (RdN.imm (n := 2) h10 rfl))) rfl ?_
        refine WL.so (SO.callP Tryz.call14 rfl (fun w hI => Gives.cv (.tuple #[spV ⟨0, 0⟩, it 10]) (Fines_g (narX X ww (m % X.tk.l.length)) (some ⟨u1.b, 0, none⟩) _ u1.cap _ _ hRN hI.imm) (by rw [finesE_2 hbN (by rw [hE2]; decide), hE2]; first | done | rfl))) rfl ?_
        rintro _ _ _ ⟨rfl, rfl, rfl⟩
        refine WL.yd (Yd.move rfl) rfl ?_
        refine WL.yd (Yd.extract rfl rfl) rfl ?_
        refine WL.yd (Yd.extract rfl rfl) rfl ?_
        refine WL.so (SO.alloc Tryz.zeroValue33 rfl) rfl ?_
        rintro _ _ _ ⟨b27, hb27, rfl, rfl, rfl⟩
        refine WL.so (SO.store 0 rfl Tryz.sizeOf33 rfl rfl rfl rfl (zqb rfl) (oneB_spec rfl)) rfl ?_
        rintro _ _ _ ⟨rfl, rfl, rfl⟩
        refine WL.yd (Yd.assign rfl) rfl ?_
        refine WL.nil (WP.thenC (WC.seq (WC.ofFr [(28, _), (27, _), (26, _), (25, _), (24, _), (23, _), (22, _), (18, _), (16, _), (15, _), (14, _), (13, _), (1, _), (4, _), (9, _), (10, _), (11, _)] ⟨rfl, rfl, rfl, rfl, rfl, rfl, rfl, rfl, rfl, rfl, rfl, rfl, rfl, rfl, rfl, rfl, rfl, trivial⟩ (WC.region ?_))))
        refine WL.yd (Yd.loadN Tryz.isAgg26 Tryz.sizeOf26 rfl (vs := [_, _, _, _, _]) rfl (by first | exact (RdN.imm (n := 5) h4 rfl) | exact (RdN.imm (n := 5) h10 rfl) | exact (RdN.imm (n := 5) h11 rfl) | exact (RdN.imm (n := 2) h10 rfl))) rfl ?_
        refine WL.yd (Yd.move rfl) rfl ?_
        refine WL.so (SO.callP Tryz.call18 rfl (fun w hI => Check_g (narX X ww (m % X.tk.l.length)) (some ⟨u1.b, 0, none⟩) _ u1.cap _ _ hRN hI.imm l ab _ cb hB)) rfl ?_
        rintro _ _ _ ⟨rfl, rfl, rfl⟩
        refine WL.yd (Yd.move rfl) rfl ?_
        refine WL.yd (Yd.extract rfl rfl) rfl ?_
        refine WL.yd (Yd.extract rfl rfl) rfl ?_
        refine WL.yd (Yd.extract rfl rfl) rfl ?_
        refine WL.yd (Yd.assign rfl) rfl ?_
        refine WL.yd (Yd.assign rfl) rfl ?_
        refine WL.yd (Yd.assign rfl) rfl ?_
        refine WL.nil (WP.thenC (WC.seq (WC.seq (WC.ofFr [(31, _), (28, _), (27, _), (26, _), (25, _), (24, _), (23, _), (22, _), (18, _), (16, _), (15, _), (14, _), (13, _), (4, _), (9, _), (10, _), (11, _)] ⟨rfl, rfl, rfl, rfl, rfl, rfl, rfl, rfl, rfl, rfl, rfl, rfl, rfl, rfl, rfl, rfl, rfl, trivial⟩ (WC.region ?_)))))
        refine WL.yd (Yd.move rfl) rfl ?_
        refine WL.yd (Yd.move rfl) rfl ?_
        refine WL.yd (Yd.neq rfl rfl) rfl ?_
        refine WL.know 181 (.bool false) rfl (congrArg Value.bool (by decide)) ?_
        refine WL.yd (Yd.move rfl) rfl ?_
        refine WL.ydg rfl (Yd.move rfl) rfl ?_
        refine WL.ydg rfl (Yd.move rfl) rfl ?_
        refine WL.ydg rfl (Yd.neq rfl rfl) rfl ?_
        refine WL.know 185 (.bool false) rfl (congrArg Value.bool (by decide)) ?_
        refine WL.yd (Yd.pickF rfl rfl) rfl ?_
        refine WL.yd (Yd.move rfl) rfl ?_
        refine WL.ydg rfl (Yd.fieldAddr FA26_0 rfl) rfl ?_
        refine WL.ydg rfl (Yd.loadN Tryz.isAgg24 Tryz.sizeOf24 rfl (vs := [_, _]) rfl (by first | exact (RdN.imm (n := 5) h4 rfl) | exact (RdN.imm (n := 5) h10 rfl) | exact (RdN.imm (n := 5) h11 rfl) | exact (RdN.imm (n := 2) h10 rfl))) rfl ?_
        refine WL.sog rfl (SO.callP Tryz.call31 rfl (fun w hI => tickets03_g (narX X ww (m % X.tk.l.length)).tk (some ⟨u1.b, 0, none⟩) _ u1.cap _ _ hRN hI.imm)) rfl ?_
        rintro _ _ _ ⟨rfl, rfl, rfl⟩
        refine WL.know 190 (.bool true) rfl (congrArg Value.bool hvN) ?_
        refine WL.ydg rfl (Yd.not rfl) rfl ?_
        refine WL.yd (Yd.pickF rfl rfl) rfl ?_
        refine WL.yd (Yd.move rfl) rfl ?_
        refine WL.ydg rfl (Yd.move rfl) rfl ?_
        refine WL.ydg rfl (Yd.neq rfl rfl) rfl ?_
        refine WL.know 195 (.bool true) rfl (congrArg Value.bool (by decide)) ?_
        refine WL.ydg rfl (Yd.move rfl) rfl ?_
        refine WL.ydg rfl (Yd.move rfl) rfl ?_
        refine WL.ydg rfl (Yd.neq rfl rfl) rfl ?_
        refine WL.know 198 (.bool false) rfl (congrArg Value.bool (by decide)) ?_
        refine WL.ydg rfl (Yd.pickT rfl rfl) rfl ?_
        refine WL.yd (Yd.pickF rfl rfl) rfl ?_
        refine WL.nil (WP.thenC ?_)
        refine WC.condF rfl ?_
        refine WC.skip (WP.thenC (WC.seq (WC.seq (WC.ofFr [(31, _), (27, _), (25, _), (24, _), (23, _), (22, _), (18, _), (16, _), (15, _), (14, _), (13, _), (4, _), (9, _), (11, _)] ⟨rfl, rfl, rfl, rfl, rfl, rfl, rfl, rfl, rfl, rfl, rfl, rfl, rfl, rfl, trivial⟩ (WC.region ?_)))))
        refine WL.yd (Yd.move rfl) rfl ?_
        refine WL.yd (Yd.eql rfl rfl) rfl ?_
        refine WL.know 202 (.bool false) rfl (congrArg Value.bool (by decide)) ?_
        refine WL.yd (Yd.move rfl) rfl ?_
        refine WL.skip rfl rfl ?_
        refine WL.skip rfl rfl ?_
        refine WL.skip rfl rfl ?_
        refine WL.skipU rfl rfl ?_
        refine WL.skipU rfl rfl ?_
        refine WL.skipU rfl rfl ?_
        refine WL.skipU rfl rfl ?_
        refine WL.skipU rfl rfl ?_
        refine WL.skip rfl rfl ?_
        refine WL.skip rfl rfl ?_
        refine WL.skipU rfl rfl ?_
        refine WL.skipU rfl rfl ?_
        refine WL.skipU rfl rfl ?_
        refine WL.skipU rfl rfl ?_
        refine WL.skipU rfl rfl ?_
        refine WL.skip rfl rfl ?_
        refine WL.skip rfl rfl ?_
        refine WL.skipU rfl rfl ?_
        refine WL.skipU rfl rfl ?_
        refine WL.skipU rfl rfl ?_
        refine WL.skipU rfl rfl ?_
        refine WL.skipU rfl rfl ?_
        refine WL.skip rfl rfl ?_
        refine WL.skip rfl rfl ?_
        refine WL.skipU rfl rfl ?_
        refine WL.skipU rfl rfl ?_
        refine WL.skipU rfl rfl ?_
        refine WL.skipU rfl rfl ?_
        refine WL.skipU rfl rfl ?_
        refine WL.skipU rfl rfl ?_
        refine WL.skip rfl rfl ?_
        refine WL.yd (Yd.pickF rfl rfl) rfl ?_
        refine WL.nil (WP.thenC ?_)
        refine WC.condF rfl ?_
        refine WC.skip (WP.thenC (WC.seq (WC.ofFr [(16, _), (15, _), (14, _), (4, _), (9, _), (11, _)] ⟨rfl, rfl, rfl, rfl, rfl, rfl, trivial⟩ (WC.region ?_))))
        refine WL.yd (Yd.loadN Tryz.isAgg26 Tryz.sizeOf26 rfl (vs := [_, _, _, _, _]) rfl (by first | exact (RdN.imm (n := 5) h4 rfl) | exact (RdN.imm (n := 5) h10 rfl) | exact (RdN.imm (n := 5) h11 rfl) | exact (RdN.imm (n := 2) h10 rfl))) rfl ?_
        refine WL.yd (Yd.move rfl) rfl ?_
        refine WL.so (SO.callP Tryz.call12 rfl (fun w hI => Gives.cv (.tuple #[spV ⟨0, 0⟩, it 10]) (Fine_g (moreX X (b : Int)) a1 _ c1 _ _ hR hI.imm ((m % X.tk.l.length) : Nat)) (by rw [fineE.1 (by rw [((spanE_is hbM).2 his), hEM]; decide), ((spanE_is hbM).2 his), hEM]; first | done | rfl))) rfl ?_
        rintro _ _ _ ⟨rfl, rfl, rfl⟩
        refine WL.yd (Yd.move rfl) rfl ?_
        refine WL.yd (Yd.extract rfl rfl) rfl ?_
        refine WL.yd (Yd.extract rfl rfl) rfl ?_
        refine WL.so (SO.alloc Tryz.zeroValue33 rfl) rfl ?_
        rintro _ _ _ ⟨b32, hb32, rfl, rfl, rfl⟩
        refine WL.so (SO.store 0 rfl Tryz.sizeOf33 rfl rfl rfl rfl (zqb rfl) (oneB_spec rfl)) rfl ?_
        rintro _ _ _ ⟨rfl, rfl, rfl⟩
        refine WL.yd (Yd.assign rfl) rfl ?_
        refine WL.nil (WP.thenC (WC.seq (WC.ofFr [(33, _), (32, _), (16, _), (15, _), (14, _), (4, _), (9, _), (11, _)] ⟨rfl, rfl, rfl, rfl, rfl, rfl, rfl, rfl, trivial⟩ (WC.region ?_))))
        refine WL.yd (Yd.loadN Tryz.isAgg26 Tryz.sizeOf26 rfl (vs := [_, _, _, _, _]) rfl (by first | exact (RdN.imm (n := 5) h4 rfl) | exact (RdN.imm (n := 5) h10 rfl) | exact (RdN.imm (n := 5) h11 rfl) | exact (RdN.imm (n := 2) h10 rfl))) rfl ?_
        refine WL.yd (Yd.move rfl) rfl ?_
        refine WL.so (SO.callP Tryz.call16 rfl (fun w hI => Gives.cv (.tuple #[spV ⟨0, 0⟩, it 10]) (Back_g (moreX X (b : Int)) a1 _ c1 _ _ hR hI.imm ((m % X.tk.l.length) : Nat)) (by rw [backE.1 (by rw [((spanE_is hbM).2 his), hEM]; decide), ((spanE_is hbM).2 his), hEM]; first | done | rfl))) rfl ?_
        rintro _ _ _ ⟨rfl, rfl, rfl⟩
        refine WL.yd (Yd.move rfl) rfl ?_
        refine WL.yd (Yd.extract rfl rfl) rfl ?_
        refine WL.yd (Yd.extract rfl rfl) rfl ?_
        refine WL.so (SO.alloc Tryz.zeroValue33 rfl) rfl ?_
        rintro _ _ _ ⟨b34, hb34, rfl, rfl, rfl⟩
        refine WL.so (SO.store 0 rfl Tryz.sizeOf33 rfl rfl rfl rfl (zqb rfl) (oneB_spec rfl)) rfl ?_
        rintro _ _ _ ⟨rfl, rfl, rfl⟩
        refine WL.yd (Yd.assign rfl) rfl ?_
        refine WL.nil (WP.thenC (WC.seq (WC.seq (WC.ofFr [(35, _), (34, _), (33, _), (32, _), (16, _), (15, _), (14, _), (4, _), (11, _)] ⟨rfl, rfl, rfl, rfl, rfl, rfl, rfl, rfl, rfl, trivial⟩ (WC.region ?_)))))
        refine WL.yd (Yd.move rfl) rfl ?_
        refine WL.yd (Yd.move rfl) rfl ?_
        refine WL.yd (Yd.neq rfl rfl) rfl ?_
        refine WL.know 250 (.bool false) rfl (congrArg Value.bool (by decide)) ?_
        refine WL.yd (Yd.move rfl) rfl ?_
        refine WL.ydg rfl (Yd.move rfl) rfl ?_
        refine WL.ydg rfl (Yd.move rfl) rfl ?_
        refine WL.ydg rfl (Yd.neq rfl rfl) rfl ?_
        refine WL.know 254 (.bool false) rfl (congrArg Value.bool (by decide)) ?_
        refine WL.yd (Yd.pickF rfl rfl) rfl ?_
        refine WL.nil (WP.thenC ?_)
        refine WC.condF rfl ?_
        refine WC.skip (WP.thenC (WC.seq (WC.seq (WC.ofFr [(34, _), (32, _), (16, _), (15, _), (14, _), (4, _), (11, _)] ⟨rfl, rfl, rfl, rfl, rfl, rfl, rfl, trivial⟩ (WC.region ?_)))))
        refine WL.yd (Yd.move rfl) rfl ?_
        refine WL.yd (Yd.neq rfl rfl) rfl ?_
        refine WL.know 257 (.bool true) rfl (congrArg Value.bool (by decide)) ?_
        refine WL.nil (WP.thenC ?_)
        refine WC.condT rfl ?_
        refine WC.seq (WC.ofFr [(34, _), (32, _), (16, _), (14, _), (4, _), (11, _)] ⟨rfl, rfl, rfl, rfl, rfl, rfl, trivial⟩ (WC.region ?_))
        refine WL.so (SO.callP Tryz.call9 rfl (fun w hI => alive_g _ _ hI.imm)) rfl ?_
        rintro _ _ _ ⟨rfl, rfl, rfl⟩
        refine WL.yd (Yd.assign rfl) rfl ?_
        refine WL.nil (WP.thenC (WC.ret (WP.thenRet ?_)))
        refine WP.ret1 rfl rfl Tryz.results7 (RV.tmp rfl) (fun w hI => ⟨rfl, hI.keep⟩)
      · skip
        refine WC.ofFr [(12, _), (1, _), (3, _), (4, _), (9, _), (10, _), (11, _)] ⟨rfl, rfl, rfl, rfl, rfl, rfl, rfl, trivial⟩ ?_
        refine WC.tail 11 [0, 1, 2, 3, 4, 5, 6, 7, 8, 9, 10] rfl (by kernel_rfl) (by kernel_rfl)  ?_
        refine WQ.q rfl (Yd.qt (Yd.move rfl)) rfl ?_
        refine WQ.q rfl (Yd.qt (Yd.move rfl)) rfl ?_
        refine WQ.q rfl (Yd.qt (Yd.nilCheck rfl)) rfl ?_
        refine WQ.q rfl (Yd.qt (Yd.fieldAddr FA33_1 rfl)) rfl ?_
        refine WQ.q rfl (Yd.qt (Yd.load1 Tryz.isAgg3 rfl (by first | exact (Rd.imm h4 rfl) | exact (Rd.flat tickC_len (j := 4) (k := 0) rfl han (by decide) rfl) | exact (Rd.flat tickC_len (j := 3) (k := 0) rfl han (by decide) rfl) | exact (Rd.flat tickC_len (j := 1) (k := 0) rfl han (by decide) rfl) | exact (Rd.flat tickC_len (j := 0) (k := 0) rfl han (by decide) rfl)))) rfl ?_
        refine WQ.q rfl (Yd.qt (Yd.move rfl)) rfl ?_
        refine WQ.q rfl (Yd.qt (Yd.nilCheck rfl)) rfl ?_
        refine WQ.q rfl (Yd.qt (Yd.fieldAddr FA33_0 rfl)) rfl ?_
        refine WQ.q rfl (Yd.qt (Yd.load1 Tryz.isAgg3 rfl (by first | exact (Rd.imm h4 rfl) | exact (Rd.flat tickC_len (j := 4) (k := 0) rfl han (by decide) rfl) | exact (Rd.flat tickC_len (j := 3) (k := 0) rfl han (by decide) rfl) | exact (Rd.flat tickC_len (j := 1) (k := 0) rfl han (by decide) rfl) | exact (Rd.flat tickC_len (j := 0) (k := 0) rfl han (by decide) rfl)))) rfl ?_
        first
          | refine WQ.know 102 (it (gt X.tk.l (m % X.tk.l.length)).door.lo) rfl rfl ?_
          | refine WQ.know 102 (it (gt X.tk.l (m % X.tk.l.length)).bought.lo) rfl rfl ?_
        refine WQ.q rfl (Yd.qt (Yd.add rfl rfl (wr64 ⟨by omega, by omega⟩))) rfl ?_
        refine WQ.q rfl (Yd.qt (Yd.min2 rfl rfl)) rfl ?_
        refine WQ.tail ?_
        refine WL.yd (Yd.nilCheck rfl) rfl ?_
        refine WL.yd (Yd.fieldAddr FA33_0 rfl) rfl ?_
        refine WL.so (SO.storeFlatN tickC_len (i := (m % X.tk.l.length)) (j := 0) (⟨⟨min (gt X.tk.l (m % X.tk.l.length)).bought.hi ((gt X.tk.l (m % X.tk.l.length)).bought.lo + 1), (gt X.tk.l (m % X.tk.l.length)).bought.hi⟩, (gt X.tk.l (m % X.tk.l.length)).hut, (gt X.tk.l (m % X.tk.l.length)).door⟩) 0 rfl Tryz.sizeOf3 rfl rfl rfl rfl han (by decide) (oneB_spec rfl) rfl) rfl ?_
        rintro _ _ _ ⟨rfl, rfl, rfl⟩
        rw [show (⟨⟨min (gt X.tk.l (m % X.tk.l.length)).bought.hi ((gt X.tk.l (m % X.tk.l.length)).bought.lo + 1), (gt X.tk.l (m % X.tk.l.length)).bought.hi⟩, (gt X.tk.l (m % X.tk.l.length)).hut, (gt X.tk.l (m % X.tk.l.length)).door⟩ : Tick) = narT ww (gt X.tk.l (m % X.tk.l.length)) from by unfold narT; rw [hww, decide_eq_true (show (m % 2 = 1) by omega)]; rfl]
        refine WL.nil ?_
        exact WP.join () trivial (fun aa ww h => at_fr h ⟨rfl, rfl, rfl, rfl, rfl, rfl, trivial⟩)
    · try simp only [zq1, zq2, zq3, zq4, zq5, zq6, zq7, zq8] at c87
      refine WC.skip (WP.thenC ?_)
      refine WC.seqJ (fun _ : Unit => [(1, .slice ab l.length cb), (3, .int .u8 b), (4, pt b4), (9, nt (m % X.tk.l.length)), (10, pt b10), (11, pt b11)]) (fun _ => [(u1.b, .cells (List.toArray ((X.tk.l.set (m % X.tk.l.length) (narT ww (gt X.tk.l (m % X.tk.l.length)))).flatMap tickC ++ u1.rest)) 57 (0, 0)), (b10, .cells (List.toArray (tillC X (.slice (some ⟨u1.b, 0, none⟩) X.tk.l.length u1.cap))) 26 (0, 0)), (b11, .cells (List.toArray (tillC X (.slice a1 X.tk.l.length c1))) 26 (0, 0))]) (fun _ => D4) (fun _ => True) ?_ ?_
      · rintro ⟨⟩ -
        refine WC.seq ?_
        refine WC.freezeN 0 u1.b (.cells (List.toArray ((narX X ww (m % X.tk.l.length)).tk.l.flatMap tickC ++ u1.rest)) 57 (0, 0)) rfl rfl hu1.1 (fun D5 hX5 hU => ?_)
        refine WC.freezeN 0 b10 (.cells (List.toArray (tillC X (.slice (some ⟨u1.b, 0, none⟩) X.tk.l.length u1.cap))) 26 (0, 0)) rfl rfl hb10 (fun D6 hX6 h10 => ?_)
        have hX7 := hX5.trans hX6 (Nat.le_refl _)
        replace hR := hR.ext hX7
        replace hB := hB.ext hX7
        replace h4 := hX7.old _ _ h4
        have hRN : TksR D6 (narX X ww (m % X.tk.l.length)).tk (some ⟨u1.b, 0, none⟩) X.tk.l.length := ⟨by have h9 := SlL.ofBlock tickC_len (hX6.old _ _ hU); rw [nar_len] at h9; exact h9, by omega⟩
        refine WC.ofFr [(1, _), (3, _), (4, _), (9, _), (10, _), (11, _)] ⟨rfl, rfl, rfl, rfl, rfl, rfl, trivial⟩ ?_
        refine WC.drawO [] [(0, true), (1, true), (2, true), (3, true), (4, true), (5, true), (6, true), (7, true), (8, true), (9, true), (10, true), (11, true), (12, true), (13, true), (14, true), (15, false), (16, true), (17, false)] (by kernel_rfl) (by kernel_rfl) (QuietPanic.then QuietPanic.body) (fun _ hI => hI.drop 99) ?_
        refine WA.yd rfl (Yd.fieldAddr FA26_2 rfl) rfl ?_
        refine WA.yd rfl (Yd.load1 Tryz.isAgg3 rfl (Rd.imm h4 rfl)) rfl ?_
        refine WA.yd rfl (Yd.move rfl) rfl ?_
        refine WA.yd rfl (Yd.conv Tryz.underlying5 Tryz.underlying3 rfl (wr64 ⟨by omega, by omega⟩)) rfl ?_
        refine WA.yd rfl (Yd.rem rfl rfl (by omega) (by omega)) rfl ?_
        refine WA.yd rfl (Yd.add rfl rfl (wr64 ⟨by omega, by omega⟩)) rfl ?_
        refine WA.yd rfl (Yd.min2 rfl rfl) rfl ?_
        refine WA.yd rfl (Yd.fieldAddr FA26_3 rfl) rfl ?_
        refine WA.yd rfl (Yd.load1 Tryz.isAgg3 rfl (Rd.imm h4 rfl)) rfl ?_
        refine WA.yd rfl (Yd.move rfl) rfl ?_
        refine WA.yd rfl (Yd.conv Tryz.underlying5 Tryz.underlying3 rfl (wr64 ⟨by omega, by omega⟩)) rfl ?_
        refine WA.yd rfl (Yd.rem rfl rfl (by omega) (by omega)) rfl ?_
        refine WA.yd rfl (Yd.add rfl rfl (wr64 ⟨by omega, by omega⟩)) rfl ?_
        refine WA.yd rfl (Yd.min2 rfl rfl) rfl ?_
        refine WA.yd rfl (Yd.fieldAddr FA26_2 rfl) rfl ?_
        refine WA.so rfl (SO.store 0 rfl Tryz.sizeOf3 rfl rfl rfl rfl (zqb rfl) (oneB_spec rfl)) rfl ?_
        rintro _ _ _ ⟨rfl, rfl, rfl⟩
        refine ⟨fun _ hI => hI.drop 99, ?_⟩
        refine WA.yd rfl (Yd.fieldAddr FA26_3 rfl) rfl ?_
        refine WA.so rfl (SO.store 0 rfl Tryz.sizeOf3 rfl rfl rfl rfl (zqb rfl) (oneB_spec rfl)) rfl ?_
        rintro _ _ _ ⟨rfl, rfl, rfl⟩
        refine ⟨fun _ hI => hI.drop 99, ?_⟩
        refine WA.nil (WP.thenC (WC.seq ?_))
        refine WC.freezeN 0 b11 (.cells (List.toArray (tillC (moreX X (b : Int)) (.slice a1 X.tk.l.length c1))) 26 (0, 0)) rfl rfl hb11 (fun D8 hX8 h11 => ?_)
        replace hR := hR.ext hX8
        replace hRN := hRN.ext hX8
        replace hB := hB.ext hX8
        replace h4 := hX8.old _ _ h4
        replace h10 := hX8.old _ _ h10
        refine WC.ofFr [(1, _), (4, _), (9, _), (10, _), (11, _)] ⟨rfl, rfl, rfl, rfl, rfl, trivial⟩ (WC.region ?_)
        refine WL.yd (Yd.assign rfl) rfl ?_
        refine WL.nil (WP.thenC (WC.seq (WC.ofFr [(13, _), (1, _), (4, _), (9, _), (10, _), (11, _)] ⟨rfl, rfl, rfl, rfl, rfl, rfl, trivial⟩ (WC.region ?_))))
        refine WL.yd (Yd.loadN Tryz.isAgg26 Tryz.sizeOf26 rfl (vs := [_, _, _, _, _]) rfl (by first | exact (RdN.imm (n := 5) h4 rfl) | exact (RdN.imm (n := 5) h10 rfl) | exact (RdN.imm (n := 5) h11 rfl) | exact (RdN.imm (n := 2) h10 rfl))) rfl ?_
        refine WL.yd (Yd.move rfl) rfl ?_
        refine WL.so (SO.callP Tryz.call12 rfl (fun w hI => Gives.cv (.tuple #[spV ⟨0, 0⟩, it 10]) (Fine_g X a1 _ c1 _ _ hR hI.imm ((m % X.tk.l.length) : Nat)) (by rw [fineE.1 (by rw [((spanE_is h1).2 his), hE]; decide), ((spanE_is h1).2 his), hE]; first | done | rfl))) rfl ?_
        rintro _ _ _ ⟨rfl, rfl, rfl⟩
        refine WL.yd (Yd.move rfl) rfl ?_
        refine WL.yd (Yd.extract rfl rfl) rfl ?_
        refine WL.yd (Yd.extract rfl rfl) rfl ?_
        refine WL.so (SO.alloc Tryz.zeroValue33 rfl) rfl ?_
        rintro _ _ _ ⟨b14, hb14, rfl, rfl, rfl⟩
        refine WL.so (SO.store 0 rfl Tryz.sizeOf33 rfl rfl rfl rfl (zqb rfl) (oneB_spec rfl)) rfl ?_
        rintro _ _ _ ⟨rfl, rfl, rfl⟩
        refine WL.yd (Yd.assign rfl) rfl ?_
        refine WL.nil (WP.thenC (WC.seq (WC.ofFr [(15, _), (14, _), (13, _), (1, _), (4, _), (9, _), (10, _), (11, _)] ⟨rfl, rfl, rfl, rfl, rfl, rfl, rfl, rfl, trivial⟩ (WC.region ?_))))
        refine WL.yd (Yd.loadN Tryz.isAgg26 Tryz.sizeOf26 rfl (vs := [_, _, _, _, _]) rfl (by first | exact (RdN.imm (n := 5) h4 rfl) | exact (RdN.imm (n := 5) h10 rfl) | exact (RdN.imm (n := 5) h11 rfl) | exact (RdN.imm (n := 2) h10 rfl))) rfl ?_
        refine WL.yd (Yd.move rfl) rfl ?_
        refine WL.so (SO.callP Tryz.call16 rfl (fun w hI => Gives.cv (.tuple #[spV ⟨0, 0⟩, it 10]) (Back_g X a1 _ c1 _ _ hR hI.imm ((m % X.tk.l.length) : Nat)) (by rw [backE.1 (by rw [((spanE_is h1).2 his), hE]; decide), ((spanE_is h1).2 his), hE]; first | done | rfl))) rfl ?_
        rintro _ _ _ ⟨rfl, rfl, rfl⟩
        refine WL.yd (Yd.move rfl) rfl ?_
        refine WL.yd (Yd.extract rfl rfl) rfl ?_
        refine WL.yd (Yd.extract rfl rfl) rfl ?_
        refine WL.so (SO.alloc Tryz.zeroValue33 rfl) rfl ?_
        rintro _ _ _ ⟨b16, hb16, rfl, rfl, rfl⟩
        refine WL.so (SO.store 0 rfl Tryz.sizeOf33 rfl rfl rfl rfl (zqb rfl) (oneB_spec rfl)) rfl ?_
        rintro _ _ _ ⟨rfl, rfl, rfl⟩
        refine WL.yd (Yd.assign rfl) rfl ?_
        refine WL.nil (WP.thenC (WC.seq (WC.ofFr [(17, _), (16, _), (15, _), (14, _), (13, _), (1, _), (4, _), (9, _), (10, _), (11, _)] ⟨rfl, rfl, rfl, rfl, rfl, rfl, rfl, rfl, rfl, rfl, trivial⟩ (WC.region ?_))))
        refine WL.yd (Yd.loadN Tryz.isAgg26 Tryz.sizeOf26 rfl (vs := [_, _, _, _, _]) rfl (by first | exact (RdN.imm (n := 5) h4 rfl) | exact (RdN.imm (n := 5) h10 rfl) | exact (RdN.imm (n := 5) h11 rfl) | exact (RdN.imm (n := 2) h10 rfl))) rfl ?_
        refine WL.so (SO.callP Tryz.call14 rfl (fun w hI => Gives.cv (.tuple #[spV ⟨0, 0⟩, it 10]) (Fines_g X a1 _ c1 _ _ hR hI.imm) (by rw [finesE_2 h1 (by rw [hE]; decide), hE]; first | done | rfl))) rfl ?_
        rintro _ _ _ ⟨rfl, rfl, rfl⟩
        refine WL.yd (Yd.move rfl) rfl ?_
        refine WL.yd (Yd.extract rfl rfl) rfl ?_
        refine WL.yd (Yd.extract rfl rfl) rfl ?_
        refine WL.so (SO.alloc Tryz.zeroValue33 rfl) rfl ?_
        rintro _ _ _ ⟨b18, hb18, rfl, rfl, rfl⟩
        refine WL.so (SO.store 0 rfl Tryz.sizeOf33 rfl rfl rfl rfl (zqb rfl) (oneB_spec rfl)) rfl ?_
        rintro _ _ _ ⟨rfl, rfl, rfl⟩
        refine WL.yd (Yd.assign rfl) rfl ?_
        refine WL.nil (WP.thenC (WC.seq (WC.ofFr [(19, _), (18, _), (17, _), (16, _), (15, _), (14, _), (13, _), (1, _), (4, _), (9, _), (10, _), (11, _)] ⟨rfl, rfl, rfl, rfl, rfl, rfl, rfl, rfl, rfl, rfl, rfl, rfl, trivial⟩ (WC.region ?_))))
        refine WL.yd (Yd.loadN Tryz.isAgg26 Tryz.sizeOf26 rfl (vs := [_, _, _, _, _]) rfl (by first | exact (RdN.imm (n := 5) h4 rfl) | exact (RdN.imm (n := 5) h10 rfl) | exact (RdN.imm (n := 5) h11 rfl) | exact (RdN.imm (n := 2) h10 rfl))) rfl ?_
        refine WL.yd (Yd.move rfl) rfl ?_
        refine WL.so (SO.callP Tryz.call18 rfl (fun w hI => Check_g X a1 _ c1 _ _ hR hI.imm l ab _ cb hB)) rfl ?_
        rintro _ _ _ ⟨rfl, rfl, rfl⟩
        refine WL.yd (Yd.move rfl) rfl ?_
        refine WL.yd (Yd.extract rfl rfl) rfl ?_
        refine WL.yd (Yd.extract rfl rfl) rfl ?_
        refine WL.yd (Yd.extract rfl rfl) rfl ?_
        refine WL.yd (Yd.assign rfl) rfl ?_
        refine WL.yd (Yd.assign rfl) rfl ?_
        refine WL.yd (Yd.assign rfl) rfl ?_
        refine WL.nil (WP.thenC (WC.seq (WC.seq (WC.ofFr [(22, _), (19, _), (18, _), (17, _), (16, _), (15, _), (14, _), (13, _), (1, _), (4, _), (9, _), (10, _), (11, _)] ⟨rfl, rfl, rfl, rfl, rfl, rfl, rfl, rfl, rfl, rfl, rfl, rfl, rfl, trivial⟩ (WC.region ?_)))))
        refine WL.yd (Yd.move rfl) rfl ?_
        refine WL.yd (Yd.move rfl) rfl ?_
        refine WL.yd (Yd.neq rfl rfl) rfl ?_
        refine WL.know 149 (.bool false) rfl (congrArg Value.bool (by decide)) ?_
        refine WL.yd (Yd.move rfl) rfl ?_
        refine WL.ydg rfl (Yd.move rfl) rfl ?_
        refine WL.ydg rfl (Yd.move rfl) rfl ?_
        refine WL.ydg rfl (Yd.neq rfl rfl) rfl ?_
        refine WL.know 153 (.bool false) rfl (congrArg Value.bool (by decide)) ?_
        refine WL.yd (Yd.pickF rfl rfl) rfl ?_
        refine WL.nil (WP.thenC ?_)
        refine WC.condF rfl ?_
        refine WC.skip (WP.thenC (WC.seq (WC.ofFr [(22, _), (18, _), (16, _), (15, _), (14, _), (13, _), (1, _), (4, _), (9, _), (10, _), (11, _)] ⟨rfl, rfl, rfl, rfl, rfl, rfl, rfl, rfl, rfl, rfl, rfl, trivial⟩ (WC.region ?_))))
        refine WL.yd (Yd.loadN Tryz.isAgg26 Tryz.sizeOf26 rfl (vs := [_, _, _, _, _]) rfl (by first | exact (RdN.imm (n := 5) h4 rfl) | exact (RdN.imm (n := 5) h10 rfl) | exact (RdN.imm (n := 5) h11 rfl) | exact (RdN.imm (n := 2) h10 rfl))) rfl ?_
        refine WL.yd (Yd.move rfl) rfl ?_
        refine WL.so (SO.callP Tryz.call12 rfl (fun w hI => Gives.cv (.tuple #[spV ⟨0, 0⟩, it 10]) (Fine_g (narX X ww (m % X.tk.l.length)) (some ⟨u1.b, 0, none⟩) _ u1.cap _ _ hRN hI.imm ((m % X.tk.l.length) : Nat)) (by rw [fineE.1 (by rw [((spanE_is hbN).2 hisN), hE2]; decide), ((spanE_is hbN).2 hisN), hE2]; first | done | rfl))) rfl ?_
        rintro _ _ _ ⟨rfl, rfl, rfl⟩
        refine WL.yd (Yd.move rfl) rfl ?_
        refine WL.yd (Yd.extract rfl rfl) rfl ?_
        refine WL.yd (Yd.extract rfl rfl) rfl ?_
        refine WL.so (SO.alloc Tryz.zeroValue33 rfl) rfl ?_
        rintro _ _ _ ⟨b23, hb23, rfl, rfl, rfl⟩
        refine WL.so (SO.store 0 rfl Tryz.sizeOf33 rfl rfl rfl rfl (zqb rfl) (oneB_spec rfl)) rfl ?_
        rintro _ _ _ ⟨rfl, rfl, rfl⟩
        refine WL.yd (Yd.assign rfl) rfl ?_
        refine WL.nil (WP.thenC (WC.seq (WC.ofFr [(24, _), (23, _), (22, _), (18, _), (16, _), (15, _), (14, _), (13, _), (1, _), (4, _), (9, _), (10, _), (11, _)] ⟨rfl, rfl, rfl, rfl, rfl, rfl, rfl, rfl, rfl, rfl, rfl, rfl, rfl, trivial⟩ (WC.region ?_))))
        refine WL.yd (Yd.loadN Tryz.isAgg26 Tryz.sizeOf26 rfl (vs := [_, _, _, _, _]) rfl (by first | exact (RdN.imm (n := 5) h4 rfl) | exact (RdN.imm (n := 5) h10 rfl) | exact (RdN.imm (n := 5) h11 rfl) | exact (RdN.imm (n := 2) h10 rfl))) rfl ?_
        refine WL.yd (Yd.move rfl) rfl ?_
        refine WL.so (SO.callP Tryz.call16 rfl (fun w hI => Gives.cv (.tuple #[spV ⟨0, 0⟩, it 10]) (Back_g (narX X ww (m % X.tk.l.length)) (some ⟨u1.b, 0, none⟩) _ u1.cap _ _ hRN hI.imm ((m % X.tk.l.length) : Nat)) (by rw [backE.1 (by rw [((spanE_is hbN).2 hisN), hE2]; decide), ((spanE_is hbN).2 hisN), hE2]; first | done | rfl))) rfl ?_
        rintro _ _ _ ⟨rfl, rfl, rfl⟩
        refine WL.yd (Yd.move rfl) rfl ?_
        refine WL.yd (Yd.extract rfl rfl) rfl ?_
        refine WL.yd (Yd.extract rfl rfl) rfl ?_
        refine WL.so (SO.alloc Tryz.zeroValue33 rfl) rfl ?_
        rintro _ _ _ ⟨b25, hb25, rfl, rfl, rfl⟩
        refine WL.so (SO.store 0 rfl Tryz.sizeOf33 rfl rfl rfl rfl (zqb rfl) (oneB_spec rfl)) rfl ?_
        rintro _ _ _ ⟨rfl, rfl, rfl⟩
        refine WL.yd (Yd.assign rfl) rfl ?_
        refine WL.nil (WP.thenC (WC.seq (WC.ofFr [(26, _), (25, _), (24, _), (23, _), (22, _), (18, _), (16, _), (15, _), (14, _), (13, _), (1, _), (4, _), (9, _), (10, _), (11, _)] ⟨rfl, rfl, rfl, rfl, rfl, rfl, rfl, rfl, rfl, rfl, rfl, rfl, rfl, rfl, rfl, trivial⟩ (WC.region ?_))))
        refine WL.yd (Yd.loadN Tryz.isAgg26 Tryz.sizeOf26 rfl (vs := [_, _, _, _, _]) rfl (by first | exact (RdN.imm (n := 5) h4 rfl) | exact (RdN.imm (n := 5) h10 rfl) | exact (RdN.imm (n := 5) h11 rfl) | exact (RdN.imm (n := 2) h10 rfl))) rfl ?_
        refine WL.so (SO.callP Tryz.call14 rfl (fun w hI => Gives.cv (.tuple #[spV ⟨0, 0⟩, it 10]) (Fines_g (narX X ww (m % X.tk.l.length)) (some ⟨u1.b, 0, none⟩) _ u1.cap _ _ hRN hI.imm) (by rw [finesE_2 hbN (by rw [hE2]; decide), hE2]; first | done | rfl))) rfl ?_
        rintro _ _ _ ⟨rfl, rfl, rfl⟩
        refine WL.yd (Yd.move rfl) rfl ?_
        refine WL.yd (Yd.extract rfl rfl) rfl ?_
        refine WL.yd (Yd.extract rfl rfl) rfl ?_
        refine WL.so (SO.alloc Tryz.zeroValue33 rfl) rfl ?_
        rintro _ _ _ ⟨b27, hb27, rfl, rfl, rfl⟩
        refine WL.so (SO.store 0 rfl Tryz.sizeOf33 rfl rfl rfl rfl (zqb rfl) (oneB_spec rfl)) rfl ?_
        rintro _ _ _ ⟨rfl, rfl, rfl⟩
        refine WL.yd (Yd.assign rfl) rfl ?_
        refine WL.nil (WP.thenC (WC.seq (WC.ofFr [(28, _), (27, _), (26, _), (25, _), (24, _), (23, _), (22, _), (18, _), (16, _), (15, _), (14, _), (13, _), (1, _), (4, _), (9, _), (10, _), (11, _)] ⟨rfl, rfl, rfl, rfl, rfl, rfl, rfl, rfl, rfl, rfl, rfl, rfl, rfl, rfl, rfl, rfl, rfl, trivial⟩ (WC.region ?_))))
        refine WL.yd (Yd.loadN Tryz.isAgg26 Tryz.sizeOf26 rfl (vs := [_, _, _, _, _]) rfl (by first | exact (RdN.imm (n := 5) h4 rfl) | exact (RdN.imm (n := 5) h10 rfl) | exact (RdN.imm (n := 5) h11 rfl) | exact (RdN.imm (n := 2) h10 rfl))) rfl ?_
        refine WL.yd (Yd.move rfl) rfl ?_
        refine WL.so (SO.callP Tryz.call18 rfl (fun w hI => Check_g (narX X ww (m % X.tk.l.length)) (some ⟨u1.b, 0, none⟩) _ u1.cap _ _ hRN hI.imm l ab _ cb hB)) rfl ?_
        rintro _ _ _ ⟨rfl, rfl, rfl⟩
        refine WL.yd (Yd.move rfl) rfl ?_
        refine WL.yd (Yd.extract rfl rfl) rfl ?_
        refine WL.yd (Yd.extract rfl rfl) rfl ?_
        refine WL.yd (Yd.extract rfl rfl) rfl ?_
        refine WL.yd (Yd.assign rfl) rfl ?_
        refine WL.yd (Yd.assign rfl) rfl ?_
        refine WL.yd (Yd.assign rfl) rfl ?_
        refine WL.nil (WP.thenC (WC.seq (WC.seq (WC.ofFr [(31, _), (28, _), (27, _), (26, _), (25, _), (24, _), (23, _), (22, _), (18, _), (16, _), (15, _), (14, _), (13, _), (4, _), (9, _), (10, _), (11, _)] ⟨rfl, rfl, rfl, rfl, rfl, rfl, rfl, rfl, rfl, rfl, rfl, rfl, rfl, rfl, rfl, rfl, rfl, trivial⟩ (WC.region ?_)))))
        refine WL.yd (Yd.move rfl) rfl ?_
        refine WL.yd (Yd.move rfl) rfl ?_
        refine WL.yd (Yd.neq rfl rfl) rfl ?_
        refine WL.know 181 (.bool false) rfl (congrArg Value.bool (by decide)) ?_
        refine WL.yd (Yd.move rfl) rfl ?_
        refine WL.ydg rfl (Yd.move rfl) rfl ?_
        refine WL.ydg rfl (Yd.move rfl) rfl ?_
        refine WL.ydg rfl (Yd.neq rfl rfl) rfl ?_
        refine WL.know 185 (.bool false) rfl (congrArg Value.bool (by decide)) ?_
        refine WL.yd (Yd.pickF rfl rfl) rfl ?_
        refine WL.yd (Yd.move rfl) rfl ?_
        refine WL.ydg rfl (Yd.fieldAddr FA26_0 rfl) rfl ?_
        refine WL.ydg rfl (Yd.loadN Tryz.isAgg24 Tryz.sizeOf24 rfl (vs := [_, _]) rfl (by first | exact (RdN.imm (n := 5) h4 rfl) | exact (RdN.imm (n := 5) h10 rfl) | exact (RdN.imm (n := 5) h11 rfl) | exact (RdN.imm (n := 2) h10 rfl))) rfl ?_
        refine WL.sog rfl (SO.callP Tryz.call31 rfl (fun w hI => tickets03_g (narX X ww (m % X.tk.l.length)).tk (some ⟨u1.b, 0, none⟩) _ u1.cap _ _ hRN hI.imm)) rfl ?_
        rintro _ _ _ ⟨rfl, rfl, rfl⟩
        refine WL.know 190 (.bool true) rfl (congrArg Value.bool hvN) ?_
        refine WL.ydg rfl (Yd.not rfl) rfl ?_
        refine WL.yd (Yd.pickF rfl rfl) rfl ?_
        refine WL.yd (Yd.move rfl) rfl ?_
        refine WL.ydg rfl (Yd.move rfl) rfl ?_
        refine WL.ydg rfl (Yd.neq rfl rfl) rfl ?_
        refine WL.know 195 (.bool true) rfl (congrArg Value.bool (by decide)) ?_
        refine WL.ydg rfl (Yd.move rfl) rfl ?_
        refine WL.ydg rfl (Yd.move rfl) rfl ?_
        refine WL.ydg rfl (Yd.neq rfl rfl) rfl ?_
        refine WL.know 198 (.bool false) rfl (congrArg Value.bool (by decide)) ?_
        refine WL.ydg rfl (Yd.pickT rfl rfl) rfl ?_
        refine WL.yd (Yd.pickF rfl rfl) rfl ?_
        refine WL.nil (WP.thenC ?_)
        refine WC.condF rfl ?_
        refine WC.skip (WP.thenC (WC.seq (WC.seq (WC.ofFr [(31, _), (27, _), (25, _), (24, _), (23, _), (22, _), (18, _), (16, _), (15, _), (14, _), (13, _), (4, _), (9, _), (11, _)] ⟨rfl, rfl, rfl, rfl, rfl, rfl, rfl, rfl, rfl, rfl, rfl, rfl, rfl, rfl, trivial⟩ (WC.region ?_)))))
        refine WL.yd (Yd.move rfl) rfl ?_
        refine WL.yd (Yd.eql rfl rfl) rfl ?_
        refine WL.know 202 (.bool false) rfl (congrArg Value.bool (by decide)) ?_
        refine WL.yd (Yd.move rfl) rfl ?_
        refine WL.skip rfl rfl ?_
        refine WL.skip rfl rfl ?_
        refine WL.skip rfl rfl ?_
        refine WL.skipU rfl rfl ?_
        refine WL.skipU rfl rfl ?_
        refine WL.skipU rfl rfl ?_
        refine WL.skipU rfl rfl ?_
        refine WL.skipU rfl rfl ?_
        refine WL.skip rfl rfl ?_
        refine WL.skip rfl rfl ?_
        refine WL.skipU rfl rfl ?_
        refine WL.skipU rfl rfl ?_
        refine WL.skipU rfl rfl ?_
        refine WL.skipU rfl rfl ?_
        refine WL.skipU rfl rfl ?_
        refine WL.skip rfl rfl ?_
        refine WL.skip rfl rfl ?_
        refine WL.skipU rfl rfl ?_
        refine WL.skipU rfl rfl ?_
        refine WL.skipU rfl rfl ?_
        refine WL.skipU rfl rfl ?_
        refine WL.skipU rfl rfl ?_
        refine WL.skip rfl rfl ?_
        refine WL.skip rfl rfl ?_
        refine WL.skipU rfl rfl ?_
        refine WL.skipU rfl rfl ?_
        refine WL.skipU rfl rfl ?_
        refine WL.skipU rfl rfl ?_
        refine WL.skipU rfl rfl ?_
        refine WL.skipU rfl rfl ?_
        refine WL.skip rfl rfl ?_
        refine WL.yd (Yd.pickF rfl rfl) rfl ?_
        refine WL.nil (WP.thenC ?_)
        refine WC.condF rfl ?_
        refine WC.skip (WP.thenC (WC.seq (WC.ofFr [(16, _), (15, _), (14, _), (4, _), (9, _), (11, _)] ⟨rfl, rfl, rfl, rfl, rfl, rfl, trivial⟩ (WC.region ?_))))
        refine WL.yd (Yd.loadN Tryz.isAgg26 Tryz.sizeOf26 rfl (vs := [_, _, _, _, _]) rfl (by first | exact (RdN.imm (n := 5) h4 rfl) | exact (RdN.imm (n := 5) h10 rfl) | exact (RdN.imm (n := 5) h11 rfl) | exact (RdN.imm (n := 2) h10 rfl))) rfl ?_
        refine WL.yd (Yd.move rfl) rfl ?_
        refine WL.so (SO.callP Tryz.call12 rfl (fun w hI => Gives.cv (.tuple #[spV ⟨0, 0⟩, it 10]) (Fine_g (moreX X (b : Int)) a1 _ c1 _ _ hR hI.imm ((m % X.tk.l.length) : Nat)) (by rw [fineE.1 (by rw [((spanE_is hbM).2 his), hEM]; decide), ((spanE_is hbM).2 his), hEM]; first | done | rfl))) rfl ?_
        rintro _ _ _ ⟨rfl, rfl, rfl⟩
        refine WL.yd (Yd.move rfl) rfl ?_
        refine WL.yd (Yd.extract rfl rfl) rfl ?_
        refine WL.yd (Yd.extract rfl rfl) rfl ?_
        refine WL.so (SO.alloc Tryz.zeroValue33 rfl) rfl ?_
        rintro _ _ _ ⟨b32, hb32, rfl, rfl, rfl⟩
        refine WL.so (SO.store 0 rfl Tryz.sizeOf33 rfl rfl rfl rfl (zqb rfl) (oneB_spec rfl)) rfl ?_
        rintro _ _ _ ⟨rfl, rfl, rfl⟩
        refine WL.yd (Yd.assign rfl) rfl ?_
        refine WL.nil (WP.thenC (WC.seq (WC.ofFr [(33, _), (32, _), (16, _), (15, _), (14, _), (4, _), (9, _), (11, _)] ⟨rfl, rfl, rfl, rfl, rfl, rfl, rfl, rfl, trivial⟩ (WC.region ?_))))
        refine WL.yd (Yd.loadN Tryz.isAgg26 Tryz.sizeOf26 rfl (vs := [_, _, _, _, _]) rfl (by first | exact (RdN.imm (n := 5) h4 rfl) | exact (RdN.imm (n := 5) h10 rfl) | exact (RdN.imm (n := 5) h11 rfl) | exact (RdN.imm (n := 2) h10 rfl))) rfl ?_
        refine WL.yd (Yd.move rfl) rfl ?_
        refine WL.so (SO.callP Tryz.call16 rfl (fun w hI => Gives.cv (.tuple #[spV ⟨0, 0⟩, it 10]) (Back_g (moreX X (b : Int)) a1 _ c1 _ _ hR hI.imm ((m % X.tk.l.length) : Nat)) (by rw [backE.1 (by rw [((spanE_is hbM).2 his), hEM]; decide), ((spanE_is hbM).2 his), hEM]; first | done | rfl))) rfl ?_
        rintro _ _ _ ⟨rfl, rfl, rfl⟩
        refine WL.yd (Yd.move rfl) rfl ?_
        refine WL.yd (Yd.extract rfl rfl) rfl ?_
        refine WL.yd (Yd.extract rfl rfl) rfl ?_
        refine WL.so (SO.alloc Tryz.zeroValue33 rfl) rfl ?_
        rintro _ _ _ ⟨b34, hb34, rfl, rfl, rfl⟩
        refine WL.so (SO.store 0 rfl Tryz.sizeOf33 rfl rfl rfl rfl (zqb rfl) (oneB_spec rfl)) rfl ?_
        rintro _ _ _ ⟨rfl, rfl, rfl⟩
        refine WL.yd (Yd.assign rfl) rfl ?_
        refine WL.nil (WP.thenC (WC.seq (WC.seq (WC.ofFr [(35, _), (34, _), (33, _), (32, _), (16, _), (15, _), (14, _), (4, _), (11, _)] ⟨rfl, rfl, rfl, rfl, rfl, rfl, rfl, rfl, rfl, trivial⟩ (WC.region ?_)))))
        refine WL.yd (Yd.move rfl) rfl ?_
        refine WL.yd (Yd.move rfl) rfl ?_
        refine WL.yd (Yd.neq rfl rfl) rfl ?_
        refine WL.know 250 (.bool false) rfl (congrArg Value.bool (by decide)) ?_
        refine WL.yd (Yd.move rfl) rfl ?_
        refine WL.ydg rfl (Yd.move rfl) rfl ?_
        refine WL.ydg rfl (Yd.move rfl) rfl ?_
        refine WL.ydg rfl (Yd.neq rfl rfl) rfl ?_
        refine WL.know 254 (.bool false) rfl (congrArg Value.bool (by decide)) ?_
        refine WL.yd (Yd.pickF rfl rfl) rfl ?_
        refine WL.nil (WP.thenC ?_)
        refine WC.condF rfl ?_
        refine WC.skip (WP.thenC (WC.seq (WC.seq (WC.ofFr [(34, _), (32, _), (16, _), (15, _), (14, _), (4, _), (11, _)] ⟨rfl, rfl, rfl, rfl, rfl, rfl, rfl, trivial⟩ (WC.region ?_)))))
        refine WL.yd (Yd.move rfl) rfl ?_
        refine WL.yd (Yd.neq rfl rfl) rfl ?_
        refine WL.know 257 (.bool true) rfl (congrArg Value.bool (by decide)) ?_
        refine WL.nil (WP.thenC ?_)
        refine WC.condT rfl ?_
        refine WC.seq (WC.ofFr [(34, _), (32, _), (16, _), (14, _), (4, _), (11, _)] ⟨rfl, rfl, rfl, rfl, rfl, rfl, trivial⟩ (WC.region ?_))
        refine WL.so (SO.callP Tryz.call9 rfl (fun w hI => alive_g _ _ hI.imm)) rfl ?_
        rintro _ _ _ ⟨rfl, rfl, rfl⟩
        refine WL.yd (Yd.assign rfl) rfl ?_
        refine WL.nil (WP.thenC (WC.ret (WP.thenRet ?_)))
        refine WP.ret1 rfl rfl Tryz.results7 (RV.tmp rfl) (fun w hI => ⟨rfl, hI.keep⟩)
      · skip
        refine WC.ofFr [(12, _), (1, _), (3, _), (4, _), (9, _), (10, _), (11, _)] ⟨rfl, rfl, rfl, rfl, rfl, rfl, rfl, trivial⟩ ?_
        refine WC.tail 11 [0, 1, 2, 3, 4, 5, 6, 7, 8, 9, 10] rfl (by kernel_rfl) (by kernel_rfl)  ?_
        refine WQ.q rfl (Yd.qt (Yd.move rfl)) rfl ?_
        refine WQ.q rfl (Yd.qt (Yd.move rfl)) rfl ?_
        refine WQ.q rfl (Yd.qt (Yd.nilCheck rfl)) rfl ?_
        refine WQ.q rfl (Yd.qt (Yd.fieldAddr FA33_1 rfl)) rfl ?_
        refine WQ.q rfl (Yd.qt (Yd.load1 Tryz.isAgg3 rfl (by first | exact (Rd.imm h4 rfl) | exact (Rd.flat tickC_len (j := 4) (k := 0) rfl han (by decide) rfl) | exact (Rd.flat tickC_len (j := 3) (k := 0) rfl han (by decide) rfl) | exact (Rd.flat tickC_len (j := 1) (k := 0) rfl han (by decide) rfl) | exact (Rd.flat tickC_len (j := 0) (k := 0) rfl han (by decide) rfl)))) rfl ?_
        refine WQ.q rfl (Yd.qt (Yd.move rfl)) rfl ?_
        refine WQ.q rfl (Yd.qt (Yd.nilCheck rfl)) rfl ?_
        refine WQ.q rfl (Yd.qt (Yd.fieldAddr FA33_0 rfl)) rfl ?_
        refine WQ.q rfl (Yd.qt (Yd.load1 Tryz.isAgg3 rfl (by first | exact (Rd.imm h4 rfl) | exact (Rd.flat tickC_len (j := 4) (k := 0) rfl han (by decide) rfl) | exact (Rd.flat tickC_len (j := 3) (k := 0) rfl han (by decide) rfl) | exact (Rd.flat tickC_len (j := 1) (k := 0) rfl han (by decide) rfl) | exact (Rd.flat tickC_len (j := 0) (k := 0) rfl han (by decide) rfl)))) rfl ?_
        first
          | refine WQ.know 102 (it (gt X.tk.l (m % X.tk.l.length)).door.lo) rfl rfl ?_
          | refine WQ.know 102 (it (gt X.tk.l (m % X.tk.l.length)).bought.lo) rfl rfl ?_
        refine WQ.q rfl (Yd.qt (Yd.add rfl rfl (wr64 ⟨by omega, by omega⟩))) rfl ?_
        refine WQ.q rfl (Yd.qt (Yd.min2 rfl rfl)) rfl ?_
        refine WQ.tail ?_
        refine WL.yd (Yd.nilCheck rfl) rfl ?_
        refine WL.yd (Yd.fieldAddr FA33_0 rfl) rfl ?_
        refine WL.so (SO.storeFlatN tickC_len (i := (m % X.tk.l.length)) (j := 3) (⟨(gt X.tk.l (m % X.tk.l.length)).bought, (gt X.tk.l (m % X.tk.l.length)).hut, ⟨min (gt X.tk.l (m % X.tk.l.length)).door.hi ((gt X.tk.l (m % X.tk.l.length)).door.lo + 1), (gt X.tk.l (m % X.tk.l.length)).door.hi⟩⟩) 0 rfl Tryz.sizeOf3 rfl rfl rfl rfl han (by decide) (oneB_spec rfl) rfl) rfl ?_
        rintro _ _ _ ⟨rfl, rfl, rfl⟩
        rw [show (⟨(gt X.tk.l (m % X.tk.l.length)).bought, (gt X.tk.l (m % X.tk.l.length)).hut, ⟨min (gt X.tk.l (m % X.tk.l.length)).door.hi ((gt X.tk.l (m % X.tk.l.length)).door.lo + 1), (gt X.tk.l (m % X.tk.l.length)).door.hi⟩⟩ : Tick) = narT ww (gt X.tk.l (m % X.tk.l.length)) from by unfold narT; rw [hww, decide_eq_false (show ¬ (m % 2 = 1) by omega)]; rfl]
        refine WL.nil ?_
        exact WP.join () trivial (fun aa ww h => at_fr h ⟨rfl, rfl, rfl, rfl, rfl, rfl, trivial⟩)
  · skip
    refine WC.ofFr [(9, _), (8, _), (4, _), (1, _), (2, _), (3, _)] ⟨rfl, rfl, rfl, rfl, rfl, rfl, trivial⟩ ?_
    refine WC.drawH [] (by kernel_rfl) (fun _ hI => hI.drop 99) ?_
    refine WH.yd (i := 0) (by kernel_rfl) (fun _ o v c a w _ h => (QuietPanic.then QuietPanic.body) c o.dst v a w h) rfl (Yd.loadN Tryz.isAgg26 Tryz.sizeOf26 rfl (vs := [_, _, _, _, _]) rfl (by first | exact (RdN.imm (n := 5) h4 rfl))) rfl ?_
    refine WH.yd (i := 1) (by kernel_rfl) (fun _ o v c a w _ h => (QuietPanic.then QuietPanic.body) c o.dst v a w h) rfl (Yd.loadN Tryz.isAgg26 Tryz.sizeOf26 rfl (vs := [_, _, _, _, _]) rfl (by first | exact (RdN.imm (n := 5) h4 rfl))) rfl ?_
    refine WH.two (i := 2) (j := 3) (by kernel_rfl) ?_ ?_
    · refine WHo.so rfl (SO.alloc Tryz.zeroValue26 rfl) rfl ?_
      rintro _ _ _ ⟨b10, hb10, rfl, rfl, rfl⟩
      refine ⟨(fun _ hI => hI.drop 99), ?_⟩
      refine WH.one (i := 3) (by kernel_rfl) (WHo.so rfl (SO.alloc Tryz.zeroValue26 rfl) rfl ?_)
      rintro _ _ _ ⟨b11, hb11, rfl, rfl, rfl⟩
      refine ⟨(fun _ hI => hI.drop 99), ?_⟩
      refine WH.one (i := 4) (by kernel_rfl) (WHo.so rfl (SO.store 1 rfl Tryz.sizeOf26 rfl rfl rfl rfl (zqb rfl) (oneB_spec rfl)) rfl ?_)
      rintro _ _ _ ⟨rfl, rfl, rfl⟩
      refine ⟨(fun _ hI => hI.drop 99), ?_⟩
      refine WH.one (i := 5) (by kernel_rfl) (WHo.so rfl (SO.store 0 rfl Tryz.sizeOf26 rfl rfl rfl rfl (zqb rfl) (oneB_spec rfl)) rfl ?_)
      rintro _ _ _ ⟨rfl, rfl, rfl⟩
      refine ⟨(fun _ hI => hI.drop 99), ?_⟩
      refine WH.nil (by kernel_rfl) ?_
      first
        | exact WP.join (⟨b10, b11⟩ : Nat × Nat) ⟨hb10, hb11⟩ (fun aa ww h => at_fr h ⟨rfl, rfl, rfl, rfl, rfl, rfl, rfl, trivial⟩)
        | exact WP.join (⟨b10, b11⟩ : Nat × Nat) ⟨hb10, hb11⟩ (fun aa ww h => at_fr (at_swap h) ⟨rfl, rfl, rfl, rfl, rfl, rfl, rfl, trivial⟩)
    · refine WHo.so rfl (SO.alloc Tryz.zeroValue26 rfl) rfl ?_
      rintro _ _ _ ⟨b11, hb11, rfl, rfl, rfl⟩
      refine ⟨(fun _ hI => hI.drop 99), ?_⟩
      refine WH.one (i := 2) (by kernel_rfl) (WHo.so rfl (SO.alloc Tryz.zeroValue26 rfl) rfl ?_)
      rintro _ _ _ ⟨b10, hb10, rfl, rfl, rfl⟩
      refine ⟨(fun _ hI => hI.drop 99), ?_⟩
      refine WH.one (i := 4) (by kernel_rfl) (WHo.so rfl (SO.store 0 rfl Tryz.sizeOf26 rfl rfl rfl rfl (zqb rfl) (oneB_spec rfl)) rfl ?_)
      rintro _ _ _ ⟨rfl, rfl, rfl⟩
      refine ⟨(fun _ hI => hI.drop 99), ?_⟩
      refine WH.one (i := 5) (by kernel_rfl) (WHo.so rfl (SO.store 1 rfl Tryz.sizeOf26 rfl rfl rfl rfl (zqb rfl) (oneB_spec rfl)) rfl ?_)
      rintro _ _ _ ⟨rfl, rfl, rfl⟩
      refine ⟨(fun _ hI => hI.drop 99), ?_⟩
      refine WH.nil (by kernel_rfl) ?_
      first
        | exact WP.join (⟨b10, b11⟩ : Nat × Nat) ⟨hb10, hb11⟩ (fun aa ww h => at_fr h ⟨rfl, rfl, rfl, rfl, rfl, rfl, rfl, trivial⟩)
        | exact WP.join (⟨b10, b11⟩ : Nat × Nat) ⟨hb10, hb11⟩ (fun aa ww h => at_fr (at_swap h) ⟨rfl, rfl, rfl, rfl, rfl, rfl, rfl, trivial⟩)

end Go.Proofs.YtpnbkdlejfmbeaaGreat
