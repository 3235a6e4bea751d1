import Derived.Test.YtpnbkdlejfmbeaaXX
set_option linter.unusedSimpArgs false
set_option linter.unusedVariables false
set_option linter.all false
namespace Go.Proofs.Ytpnbkdlejfmbeaa
open Go.W Go.Ti

def fstC (p : Pr) : List Value := [it p.1]
def sndC (p : Pr) : List Value := [it p.2]
theorem fstC_len : ∀ p, (fstC p).length = 1 := fun _ => rfl
theorem sndC_len : ∀ p, (sndC p).length = 1 := fun _ => rfl
theorem fstC_snoc (y : List Pr) (p : Pr) : (y ++ [p]).flatMap fstC = y.flatMap fstC ++ [it p.1] := by rw [List.flatMap_append]; rfl
theorem sndC_snoc (y : List Pr) (p : Pr) : (y ++ [p]).flatMap sndC = y.flatMap sndC ++ [it p.2] := by rw [List.flatMap_append]; rfl
theorem tickC_snoc (ts : List Tick) (x : Tick) : (ts ++ [x]).flatMap tickC = ts.flatMap tickC ++ tickC x := by rw [List.flatMap_append, List.flatMap_cons, List.flatMap_nil, List.append_nil]
theorem zeroF : ∀ n, zeroL [.int .i64 0] (n * 1) = (List.replicate n (0 : Int)).map it ++ [] := by
  intro n
  rw [Nat.mul_one, List.append_nil]
  induction n with
  | zero => rfl
  | succ n ih => rw [List.replicate_succ', List.map_append, ← ih]; simp [zeroL, Nat.mod_one]
structure MSt where
  k : Nat
  ts : List Tick
  y : List Pr
  free : List Int
  o1 : Option Ow
  o2 : Option Ow
  o3 : Option Ow

set_option maxRecDepth 100000 in
set_option maxHeartbeats 1000000 in
theorem made_g (by_ : List Int) (bc bb j : Nat) (D : Imm) (w : World) (hB : ByR D by_ bb) (hj : j ≤ 500) (hI0 : Inv D [(bc, cntO j)] [bc] w w) : AltersN Try.prog 23 [fvV bc bb] w D [bc] (fun v D' hpc' => ∃ (X : Till) (y : List Pr) (a1 : Option Addr) (c1 : Nat) (a2 : Option Addr) (c2 : Nat) (a3 : Option Addr) (c3 j' : Nat), v = .tuple #[.agg #[it X.tk.huts, .slice a1 X.tk.l.length c1, it X.price, it X.fine, it X.wait], .slice a2 X.tk.l.length c2, .slice a3 X.tk.l.length c3] ∧ tillB X = true ∧ y.length = X.tk.l.length ∧ Sol X.tk (gt y) ∧ TksR D' X.tk a1 X.tk.l.length ∧ SlL D' 1 (y.map fstC) a2 X.tk.l.length ∧ SlL D' 1 (y.map sndC) a3 X.tk.l.length ∧ j' ≤ j + 50 ∧ hpc' = [(bc, cntO j')]) := by
  unfold AltersN
  refine enter Try.func23 rfl 85 Try.ntmps23 (Nat.le_of_ble_eq_true rfl) hI0 ?_
  refine WC.seq ?_
  refine WC.ofFr [(0, _)] ⟨rfl, trivial⟩ ?_
  refine WC.region ?_
  refine WL.so (SO.box rfl rfl) rfl ?_
  rintro _ _ _ ⟨b1, hb1, rfl, rfl, rfl⟩ -- NEW
  refine WL.so (SO.alloc Try.zeroValue37 rfl) rfl ?_
  rintro _ _ _ ⟨b2, hb2, rfl, rfl, rfl⟩ -- NEW
  refine WL.yd (Yd.assign rfl) rfl ?_
  refine WL.yd (Yd.assign rfl) rfl ?_
  refine WL.nil ?_
  refine WP.thenC ?_
  refine WC.seq ?_
  refine WC.freezeK 1 rfl (fun hn1 => ?_)
  have hX1 : DExt w D (D.add b1 (.cells (List.toArray [fvV bc bb]) 52 (0, 0))) := (DExt.refl w D).add hn1 hb1
  have hf : (D.add b1 (.cells (List.toArray [fvV bc bb]) 52 (0, 0))) b1 = some (.cells (List.toArray [fvV bc bb]) 52 (0, 0)) := Imm.add_self _ _ _
  replace hB := hB.ext hX1
  refine (?_ : WC Try.prog _ _ (D.add b1 (.cells (List.toArray [fvV bc bb]) 52 (0, 0))) [_, _] _ _)
  generalize D.add b1 (.cells (List.toArray [fvV bc bb]) 52 (0, 0)) = D1 at hX1 hf hB ⊢
  refine WC.hpPerm [(bc, cntO j), (b2, .cells (List.toArray [it 0, .slice none 0 0, it 0, it 0, it 0]) 37 (0, 0))] (List.Perm.swap _ _ _) ?_
  have hd1 := drawV_num by_ (j + 1) (n := 101) (by omega)
  have hd2 := drawV_num by_ (j + 2) (n := 101) (by omega)
  have hd3 := drawV_num by_ (j + 3) (n := 101) (by omega)
  have hd4 := drawV_num by_ (j + 4) (n := 4) (by omega)
  have hd5 := drawV_num by_ (j + 5) (n := 6) (by omega)
  have ej : drawV by_ (j + 3 + 1) 4 = drawV by_ (j + 4) 4 := rfl
  refine WC.ofFr [(4, _), (3, _), (2, _), (1, _)] ⟨rfl, rfl, rfl, rfl, trivial⟩ ?_
  refine WC.drawO [] [(0, true), (2, true), (4, true), (6, true), (1, false), (9, true), (3, false), (5, false), (7, false), (8, true), (10, false), (11, true), (12, false), (13, true), (14, false), (15, true), (16, true), (17, false)] (by kernel_rfl) (by kernel_rfl) (QuietPanic.then QuietPanic.body) (fun _ hI => Inv.nil hI) ?_
  refine WA.yd rfl (Yd.load1 Try.isAgg52 rfl (by first | exact Rd.own (k := 0) rfl rfl | exact Rd.own (k := 1) rfl rfl | exact (Rd.imm hf rfl))) rfl ?_
  refine WA.yd rfl (Yd.load1 Try.isAgg52 rfl (by first | exact Rd.own (k := 0) rfl rfl | exact Rd.own (k := 1) rfl rfl | exact (Rd.imm hf rfl))) rfl ?_
  refine WA.yd rfl (Yd.load1 Try.isAgg52 rfl (by first | exact Rd.own (k := 0) rfl rfl | exact Rd.own (k := 1) rfl rfl | exact (Rd.imm hf rfl))) rfl ?_
  refine WA.yd rfl (Yd.load1 Try.isAgg52 rfl (by first | exact Rd.own (k := 0) rfl rfl | exact Rd.own (k := 1) rfl rfl | exact (Rd.imm hf rfl))) rfl ?_
  refine WA.so rfl (SO.altersF (own := _) (hpc := [(bc, cntO j)]) (S1 := [bc]) rfl (fun _ h => h) (fun _ h => h) (Enters.val Try.call57 rfl rfl) (fun w1 hI => draw_g by_ bc bb _ w1 hB 101 (by omega) j (by omega) hI)) rfl ?_
  rintro _ _ _ ⟨_, _, ⟨rfl, rfl, rfl⟩, rfl⟩
  refine ⟨fun _ hI => Inv.nil hI, ?_⟩
  refine WA.yd rfl (Yd.fieldAddr FA37_1 rfl) rfl ?_
  refine WA.so rfl (SO.altersF (own := _) (hpc := [(bc, cntO (j + 1))]) (S1 := [bc]) rfl (fun _ h => h) (fun _ h => h) (Enters.val Try.call57 rfl rfl) (fun w1 hI => draw_g by_ bc bb _ w1 hB 101 (by omega) (j + 1) (by omega) hI)) rfl ?_
  rintro _ _ _ ⟨_, _, ⟨rfl, rfl, rfl⟩, rfl⟩
  refine ⟨fun _ hI => Inv.nil hI, ?_⟩
  refine WA.so rfl (SO.altersF (own := _) (hpc := [(bc, cntO (j + 2))]) (S1 := [bc]) rfl (fun _ h => h) (fun _ h => h) (Enters.val Try.call57 rfl rfl) (fun w1 hI => draw_g by_ bc bb _ w1 hB 101 (by omega) (j + 2) (by omega) hI)) rfl ?_
  rintro _ _ _ ⟨_, _, ⟨rfl, rfl, rfl⟩, rfl⟩
  refine ⟨fun _ hI => Inv.nil hI, ?_⟩
  refine WA.so rfl (SO.altersF (own := _) (hpc := [(bc, cntO (j + 3))]) (S1 := [bc]) rfl (fun _ h => h) (fun _ h => h) (Enters.val Try.call57 rfl rfl) (fun w1 hI => draw_g by_ bc bb _ w1 hB 4 (by omega) (j + 3) (by omega) hI)) rfl ?_
  rintro _ _ _ ⟨_, _, ⟨rfl, rfl, rfl⟩, rfl⟩
  refine ⟨fun _ hI => Inv.nil hI, ?_⟩
  refine WA.yd rfl (Yd.add rfl rfl (wr64 ⟨by omega, by omega⟩)) rfl ?_
  refine WA.so rfl (SO.store 1 rfl Try.sizeOf3 rfl rfl rfl rfl (Nat.le_of_ble_eq_true rfl) (oneB_spec rfl)) rfl ?_
  rintro _ _ _ ⟨rfl, rfl, rfl⟩
  refine ⟨fun _ hI => Inv.nil hI, ?_⟩
  refine WA.yd rfl (Yd.fieldAddr FA37_2 rfl) rfl ?_
  refine WA.so rfl (SO.store 1 rfl Try.sizeOf3 rfl rfl rfl rfl (Nat.le_of_ble_eq_true rfl) (oneB_spec rfl)) rfl ?_
  rintro _ _ _ ⟨rfl, rfl, rfl⟩
  refine ⟨fun _ hI => Inv.nil hI, ?_⟩
  refine WA.yd rfl (Yd.fieldAddr FA37_3 rfl) rfl ?_
  refine WA.so rfl (SO.store 1 rfl Try.sizeOf3 rfl rfl rfl rfl (Nat.le_of_ble_eq_true rfl) (oneB_spec rfl)) rfl ?_
  rintro _ _ _ ⟨rfl, rfl, rfl⟩
  refine ⟨fun _ hI => Inv.nil hI, ?_⟩
  refine WA.yd rfl (Yd.fieldAddr FA37_0 rfl) rfl ?_
  refine WA.yd rfl (Yd.fieldAddr FA35_0 rfl) rfl ?_
  refine WA.so rfl (SO.store 1 rfl Try.sizeOf3 rfl rfl rfl rfl (Nat.le_of_ble_eq_true rfl) (oneB_spec rfl)) rfl ?_
  rintro _ _ _ ⟨rfl, rfl, rfl⟩
  refine ⟨fun _ hI => Inv.nil hI, ?_⟩
  refine WA.nil ?_
  refine WP.thenC ?_
  refine WC.seq ?_
  refine WC.ofFr [(4, _), (3, _), (2, _), (1, _)] ⟨rfl, rfl, rfl, rfl, trivial⟩ ?_
  refine WC.region ?_
  refine WL.yd (Yd.fieldAddr FA37_0 rfl) rfl ?_
  refine WL.yd (Yd.fieldAddr FA35_0 rfl) rfl ?_
  refine WL.yd (Yd.load1 Try.isAgg3 rfl (by first | exact Rd.own (k := 0) rfl rfl | exact Rd.own (k := 1) rfl rfl | exact (Rd.imm hf rfl))) rfl ?_
  refine WL.know 26 (nt (1 + drawV by_ (j + 4) 4).toNat) rfl (congrArg (Value.int .i64) (by omega)) ?_
  refine WL.so (SO.makeSlice Try.underlying22 Try.sizeOf3 Try.typeInfo3 Try.zeroValue3 rfl rfl rfl (by omega) (by show 8 * (((1 + drawV by_ (j + 4) 4).toNat : Nat) : Int) ≤ 2 ^ 48; omega)) rfl ?_
  rintro _ _ _ ⟨b27, hb27, rfl, rfl, rfl⟩ -- NEW
  refine WL.yd (Yd.assign rfl) rfl ?_
  refine WL.nil ?_
  refine WP.thenC ?_
  refine WC.seq ?_
  refine WC.ofFr [(5, _), (4, _), (3, _), (2, _), (1, _)] ⟨rfl, rfl, rfl, rfl, rfl, trivial⟩ ?_
  refine WC.region ?_
  refine WL.yd (Yd.func rfl rfl) rfl ?_
  refine WL.yd (Yd.assign rfl) rfl ?_
  refine WL.nil ?_
  refine WP.thenC ?_
  refine WC.seq ?_
  refine WC.seq ?_
  refine WC.hpEq (hp' := [(b27, .cells (List.toArray ((List.replicate (1 + drawV by_ (j + 4) 4).toNat (0 : Int)).map it ++ [])) 3 (0, 0)), (bc, cntO (j + 4)), (b2, .cells (List.toArray [it (1 + drawV by_ (j + 4) 4), owV none 0, it (drawV by_ (j + 1) 101), it (drawV by_ (j + 2) 101), it (drawV by_ (j + 3) 101)]) 37 (0, 0))]) (by rw [← zeroF]; rfl) ?_
  refine WC.hpPerm [(bc, cntO (j + 4)), (b27, .cells (List.toArray ((List.replicate (1 + drawV by_ (j + 4) 4).toNat (0 : Int)).map it ++ [])) 3 (0, 0)), (b2, .cells (List.toArray [it (1 + drawV by_ (j + 4) 4), owV none 0, it (drawV by_ (j + 1) 101), it (drawV by_ (j + 2) 101), it (drawV by_ (j + 3) 101)]) 37 (0, 0))] (List.Perm.swap _ _ _) ?_
  refine WC.ofFr [(6, _), (5, _), (4, _), (3, _), (2, _), (1, _)] ⟨rfl, rfl, rfl, rfl, rfl, rfl, trivial⟩ ?_
  refine WC.region ?_
  refine WL.yd (Yd.load1 Try.isAgg52 rfl (by first | exact Rd.own (k := 0) rfl rfl | exact Rd.own (k := 1) rfl rfl | exact Rd.own (k := 2) rfl rfl | exact (Rd.imm hf rfl))) rfl ?_
  refine WL.so (SO.altersF (own := _) (hpc := [(bc, cntO (j + 4))]) (S1 := [bc]) rfl (fun _ h => h) (fun _ h => h) (Enters.val Try.call57 rfl rfl) (fun w1 hI => draw_g by_ bc bb _ w1 hB 6 (by omega) (j + 4) (by omega) hI)) rfl ?_
  rintro _ _ _ ⟨_, _, ⟨rfl, rfl, rfl⟩, rfl⟩
  refine WL.yd (Yd.move rfl) rfl ?_
  refine WL.nil ?_
  refine WP.thenC ?_
  refine WC.block ?_
  have hHU : (((1 + drawV by_ (j + 4) 4).toNat : Nat) : Int) = (1 + drawV by_ (j + 4) 4) := by omega
  refine WC.loop (fun s : MSt => [(1, pt b1), (2, pt b2), (3, owV s.o2 s.k), (4, owV s.o3 s.k), (5, .slice (some ⟨b27, 0, none⟩) (1 + drawV by_ (j + 4) 4).toNat (1 + drawV by_ (j + 4) 4).toNat), (6, .func (.func 58) #[] #[pt b1]), (30, it (drawV by_ (j + 5) 6)), (31, nt s.k)]) (fun s => ((bc, cntO (j + 5 + 8 * s.k)) :: (b27, .cells (List.toArray ((s.free).map it ++ [])) 3 (0, 0)) :: (b2, .cells (List.toArray [it (1 + drawV by_ (j + 4) 4), owV s.o1 s.k, it (drawV by_ (j + 1) 101), it (drawV by_ (j + 2) 101), it (drawV by_ (j + 3) 101)]) 37 (0, 0)) :: (owH s.o1 78 (s.ts.flatMap tickC) (owH s.o2 3 (s.y.flatMap fstC) (owH s.o3 3 (s.y.flatMap sndC) []))))) (fun _ => D1) (fun s => (s.k : Int) ≤ drawV by_ (j + 5) 6 ∧ MadeI (1 + drawV by_ (j + 4) 4) s.k s.ts s.y s.free ∧ owP w s.o1 s.k 5 ∧ owP w s.o2 s.k 1 ∧ owP w s.o3 s.k 1) (fun s => 5 - s.k) ⟨0, [], [], List.replicate (1 + drawV by_ (j + 4) 4).toNat 0, none, none, none⟩ ⟨by simp only; omega, MadeI.start (by omega), rfl, rfl, rfl⟩ (fun a w h => at_fr h ⟨rfl, rfl, rfl, rfl, rfl, rfl, rfl, rfl, trivial⟩) ?_
  rintro s ⟨hk, hM, ho1, ho2, ho3⟩
  have he1 := drawV_num by_ (j + 5 + 8 * s.k + 1) (n := (1 + drawV by_ (j + 4) 4)) (by omega)
  have he2 := drawV_num by_ (j + 5 + 8 * s.k + 1 + 1) (n := 8) (by omega)
  have he3 := drawV_num by_ (j + 5 + 8 * s.k + 1 + 1 + 1) (n := 50) (by omega)
  have he4 := drawV_num by_ (j + 5 + 8 * s.k + 1 + 1 + 1 + 1) (n := 3) (by omega)
  have hlt : (drawV by_ (j + 5 + 8 * s.k + 1) (1 + drawV by_ (j + 4) 4)).toNat < s.free.length := by have := hM.lf; omega
  have hfr := hM.fr (drawV by_ (j + 5 + 8 * s.k + 1) (1 + drawV by_ (j + 4) 4)).toNat hlt
  refine WC.seq ?_
  refine WC.ofFr [(1, _), (2, _), (3, _), (4, _), (5, _), (6, _), (30, _), (31, _)] ⟨rfl, rfl, rfl, rfl, rfl, rfl, rfl, rfl, trivial⟩ ?_
  refine WC.region ?_
  refine WL.yd (Yd.lss rfl rfl) rfl ?_
  refine WL.nil ?_
  refine WP.thenC ?_
  refine WC.seq ?_
  refine WC.cond rfl (fun c32 => ?_) (fun c32 => ?_)
  · try simp only [zq1, zq2, zq3, zq4, zq5, zq6, zq7, zq8] at c32
    have hk5 : s.k < 5 := by omega
    have hlf := hM.lf
    refine WC.skip ?_
    refine WP.thenC ?_
    refine WC.seq ?_
    refine WC.block ?_
    refine WC.seq ?_
    refine WC.ofFr [(1, _), (2, _), (3, _), (4, _), (5, _), (6, _), (30, _), (31, _)] ⟨rfl, rfl, rfl, rfl, rfl, rfl, rfl, rfl, trivial⟩ ?_
    refine WC.region ?_
    refine WL.yd (Yd.load1 Try.isAgg52 rfl (by first | exact Rd.own (k := 0) rfl rfl | exact Rd.own (k := 1) rfl rfl | exact Rd.own (k := 2) rfl rfl | exact Rd.own (k := 3) rfl rfl | exact Rd.own (k := 4) rfl rfl | exact Rd.own (k := 5) rfl rfl | exact (Rd.imm hf rfl))) rfl ?_
    refine WL.yd (Yd.fieldAddr FA37_0 rfl) rfl ?_
    refine WL.yd (Yd.fieldAddr FA35_0 rfl) rfl ?_
    refine WL.yd (Yd.load1 Try.isAgg3 rfl (by first | exact Rd.own (k := 0) rfl rfl | exact Rd.own (k := 1) rfl rfl | exact Rd.own (k := 2) rfl rfl | exact Rd.own (k := 3) rfl rfl | exact Rd.own (k := 4) rfl rfl | exact Rd.own (k := 5) rfl rfl | exact (Rd.imm hf rfl))) rfl ?_
    refine WL.so (SO.altersF (own := _) (hpc := [(bc, cntO (j + 5 + 8 * s.k))]) (S1 := [bc]) rfl (fun _ h => h) (fun _ h => h) (Enters.val Try.call57 rfl rfl) (fun w1 hI => draw_g by_ bc bb _ w1 hB (1 + drawV by_ (j + 4) 4) (by omega) (j + 5 + 8 * s.k) (by omega) hI)) rfl ?_
    rintro _ _ _ ⟨_, _, ⟨rfl, rfl, rfl⟩, rfl⟩
    refine WL.yd (Yd.assign rfl) rfl ?_
    refine WL.nil ?_
    refine WP.thenC ?_
    refine WC.seqJ (fun _ : Unit => [(1, pt b1), (2, pt b2), (3, owV s.o2 s.k), (4, owV s.o3 s.k), (5, .slice (some ⟨b27, 0, none⟩) (1 + drawV by_ (j + 4) 4).toNat (1 + drawV by_ (j + 4) 4).toNat), (6, .func (.func 58) #[] #[pt b1]), (7, nt (drawV by_ (j + 5 + 8 * s.k + 1) (1 + drawV by_ (j + 4) 4)).toNat), (8, it (gt s.free (drawV by_ (j + 5 + 8 * s.k + 1) (1 + drawV by_ (j + 4) 4)).toNat + drawV by_ (j + 5 + 8 * s.k + 1 + 1) 8)), (30, it (drawV by_ (j + 5) 6)), (31, nt s.k)]) (fun _ => ((bc, cntO (j + 5 + 8 * s.k + 1 + 1)) :: (b27, .cells (List.toArray ((s.free).map it ++ [])) 3 (0, 0)) :: (b2, .cells (List.toArray [it (1 + drawV by_ (j + 4) 4), owV s.o1 s.k, it (drawV by_ (j + 1) 101), it (drawV by_ (j + 2) 101), it (drawV by_ (j + 3) 101)]) 37 (0, 0)) :: (owH s.o1 78 (s.ts.flatMap tickC) (owH s.o2 3 (s.y.flatMap fstC) (owH s.o3 3 (s.y.flatMap sndC) []))))) (fun _ => D1) (fun _ => True) ?_ ?_
    · rintro ⟨⟩ -
      refine WC.seq ?_
      refine WC.ofFr [(1, _), (2, _), (3, _), (4, _), (5, _), (6, _), (7, _), (8, _), (30, _), (31, _)] ⟨rfl, rfl, rfl, rfl, rfl, rfl, rfl, rfl, rfl, rfl, trivial⟩ ?_
      refine WC.region ?_
      refine WL.yd (Yd.move rfl) rfl ?_
      refine WL.yd (Yd.load1 Try.isAgg52 rfl (by first | exact Rd.own (k := 0) rfl rfl | exact Rd.own (k := 1) rfl rfl | exact Rd.own (k := 2) rfl rfl | exact Rd.own (k := 3) rfl rfl | exact Rd.own (k := 4) rfl rfl | exact Rd.own (k := 5) rfl rfl | exact (Rd.imm hf rfl))) rfl ?_
      refine WL.so (SO.altersF (own := _) (hpc := [(bc, cntO (j + 5 + 8 * s.k + 1 + 1))]) (S1 := [bc]) rfl (fun _ h => h) (fun _ h => h) (Enters.val Try.call57 rfl rfl) (fun w1 hI => draw_g by_ bc bb _ w1 hB 50 (by omega) (j + 5 + 8 * s.k + 1 + 1) (by omega) hI)) rfl ?_
      rintro _ _ _ ⟨_, _, ⟨rfl, rfl, rfl⟩, rfl⟩
      refine WL.yd (Yd.sub rfl rfl (wr64 ⟨by omega, by omega⟩)) rfl ?_
      refine WL.yd (Yd.max2 rfl rfl) rfl ?_
      refine WL.yd (Yd.assign rfl) rfl ?_
      refine WL.nil ?_
      refine WP.thenC ?_
      refine WC.seq ?_
      refine WC.ofFr [(9, _), (1, _), (2, _), (3, _), (4, _), (5, _), (6, _), (7, _), (8, _), (30, _), (31, _)] ⟨rfl, rfl, rfl, rfl, rfl, rfl, rfl, rfl, rfl, rfl, rfl, trivial⟩ ?_
      refine WC.region ?_
      refine WL.yd (Yd.move rfl) rfl ?_
      refine WL.yd (Yd.move rfl) rfl ?_
      refine WL.yd (Yd.move rfl) rfl ?_
      refine WL.yd (Yd.add rfl rfl (wr64 ⟨by omega, by omega⟩)) rfl ?_
      refine WL.yd (Yd.load1 Try.isAgg52 rfl (by first | exact Rd.own (k := 0) rfl rfl | exact Rd.own (k := 1) rfl rfl | exact Rd.own (k := 2) rfl rfl | exact Rd.own (k := 3) rfl rfl | exact Rd.own (k := 4) rfl rfl | exact Rd.own (k := 5) rfl rfl | exact (Rd.imm hf rfl))) rfl ?_
      refine WL.so (SO.altersF (own := _) (hpc := [(bc, cntO (j + 5 + 8 * s.k + 1 + 1 + 1))]) (S1 := [bc]) rfl (fun _ h => h) (fun _ h => h) (Enters.val Try.call57 rfl rfl) (fun w1 hI => draw_g by_ bc bb _ w1 hB 3 (by omega) (j + 5 + 8 * s.k + 1 + 1 + 1) (by omega) hI)) rfl ?_
      rintro _ _ _ ⟨_, _, ⟨rfl, rfl, rfl⟩, rfl⟩
      refine WL.yd (Yd.add rfl rfl (wr64 ⟨by omega, by omega⟩)) rfl ?_
      refine WL.yd (Yd.indexS Try.underlying22 Try.sizeOf3 rfl rfl (by omega) (by omega) (by first | exact rfl)) rfl ?_
      refine WL.so (SO.store 1 rfl Try.sizeOf3 rfl rfl rfl rfl (len_dataI _ _ hlt) (oneB_spec rfl)) rfl ?_
      rintro _ _ _ ⟨rfl, rfl, rfl⟩
      refine WL.nil ?_
      refine WP.thenC ?_
      refine WC.seq ?_
      refine WC.hpEq (hp' := ((bc, cntO (j + 5 + 8 * s.k + 1 + 1 + 1 + 1)) :: (b27, .cells (List.toArray ((s.free.set (drawV by_ (j + 5 + 8 * s.k + 1) (1 + drawV by_ (j + 4) 4)).toNat ((gt s.free (drawV by_ (j + 5 + 8 * s.k + 1) (1 + drawV by_ (j + 4) 4)).toNat + drawV by_ (j + 5 + 8 * s.k + 1 + 1) 8) + 30 + drawV by_ (j + 5 + 8 * s.k + 1 + 1 + 1 + 1) 3)).map it ++ [])) 3 (0, 0)) :: (b2, .cells (List.toArray [it (1 + drawV by_ (j + 4) 4), owV s.o1 s.k, it (drawV by_ (j + 1) 101), it (drawV by_ (j + 2) 101), it (drawV by_ (j + 3) 101)]) 37 (0, 0)) :: (owH s.o1 78 (s.ts.flatMap tickC) (owH s.o2 3 (s.y.flatMap fstC) (owH s.o3 3 (s.y.flatMap sndC) []))))) (by rw [← splice_dataI _ _ _ _ hlt]; rfl) ?_
      refine WC.ofFr [(9, _), (1, _), (2, _), (3, _), (4, _), (5, _), (6, _), (7, _), (8, _), (30, _), (31, _)] ⟨rfl, rfl, rfl, rfl, rfl, rfl, rfl, rfl, rfl, rfl, rfl, trivial⟩ ?_
      refine WC.drawH [] (by kernel_rfl) (fun _ hI => Inv.nil hI) ?_
      refine WH.yd (i := 0) (by kernel_rfl) (fun _ o v c a w _ h => (QuietPanic.then (QuietPanic.blk (QuietPanic.then (QuietPanic.then (QuietPanic.blk (QuietPanic.then QuietPanic.body)))))) c o.dst v a w h) rfl (Yd.fieldAddr FA37_0 rfl) rfl ?_
      refine WH.yd (i := 1) (by kernel_rfl) (fun _ o v c a w _ h => (QuietPanic.then (QuietPanic.blk (QuietPanic.then (QuietPanic.then (QuietPanic.blk (QuietPanic.then QuietPanic.body)))))) c o.dst v a w h) rfl (Yd.fieldAddr FA35_1 rfl) rfl ?_
      refine WH.yd (i := 3) (by kernel_rfl) (fun _ o v c a w _ h => (QuietPanic.then (QuietPanic.blk (QuietPanic.then (QuietPanic.then (QuietPanic.blk (QuietPanic.then QuietPanic.body)))))) c o.dst v a w h) rfl (Yd.move rfl) rfl ?_
      refine WH.yd (i := 4) (by kernel_rfl) (fun _ o v c a w _ h => (QuietPanic.then (QuietPanic.blk (QuietPanic.then (QuietPanic.then (QuietPanic.blk (QuietPanic.then QuietPanic.body)))))) c o.dst v a w h) rfl (Yd.move rfl) rfl ?_
      refine WH.yd (i := 6) (by kernel_rfl) (fun _ o v c a w _ h => (QuietPanic.then (QuietPanic.blk (QuietPanic.then (QuietPanic.then (QuietPanic.blk (QuietPanic.then QuietPanic.body)))))) c o.dst v a w h) rfl (Yd.move rfl) rfl ?_
      refine WH.yd (i := 7) (by kernel_rfl) (fun _ o v c a w _ h => (QuietPanic.then (QuietPanic.blk (QuietPanic.then (QuietPanic.then (QuietPanic.blk (QuietPanic.then QuietPanic.body)))))) c o.dst v a w h) rfl (Yd.move rfl) rfl ?_
      refine WH.yd (i := 8) (by kernel_rfl) (fun _ o v c a w _ h => (QuietPanic.then (QuietPanic.blk (QuietPanic.then (QuietPanic.then (QuietPanic.blk (QuietPanic.then QuietPanic.body)))))) c o.dst v a w h) rfl (Yd.move rfl) rfl ?_
      refine WH.two (i := 2) (j := 5) (by kernel_rfl) ?_ ?_
      · refine WHo.yd rfl (Yd.load1 Try.isAgg33 rfl (by first | exact Rd.own (k := 0) rfl rfl | exact Rd.own (k := 1) rfl rfl | exact Rd.own (k := 2) rfl rfl | exact Rd.own (k := 3) rfl rfl | exact Rd.own (k := 4) rfl rfl | exact Rd.own (k := 5) rfl rfl | exact (Rd.imm hf rfl))) rfl ?_
        refine WH.one (i := 5) (by kernel_rfl) (WHo.so rfl (SO.altersNF (own := _) (hpc := [(bc, cntO (j + 5 + 8 * s.k + 1 + 1 + 1 + 1))]) (S1 := [bc]) rfl (fun _ h => h) (fun _ h => h) (Enters.val Try.call58 rfl rfl) (fun w1 hI => arnd_g (max 0 ((gt s.free (drawV by_ (j + 5 + 8 * s.k + 1) (1 + drawV by_ (j + 4) 4)).toNat + drawV by_ (j + 5 + 8 * s.k + 1 + 1) 8) - drawV by_ (j + 5 + 8 * s.k + 1 + 1 + 1) 50)) (by omega) by_ bc bb b1 _ w1 hB hf (j + 5 + 8 * s.k + 1 + 1 + 1 + 1) (by omega) hI)) rfl ?_)
        rintro _ _ _ ⟨_, _, ⟨s1, rfl, hs1, rfl, rfl⟩, rfl⟩
        refine ⟨(fun _ hI => Inv.nil hI), ?_⟩
        refine WH.one (i := 9) (by kernel_rfl) (WHo.so rfl (SO.altersNF (own := _) (hpc := [(bc, cntO (j + 5 + 8 * s.k + 1 + 1 + 1 + 1 + 2))]) (S1 := [bc]) rfl (fun _ h => h) (fun _ h => h) (Enters.val Try.call58 rfl rfl) (fun w1 hI => arnd_g (gt s.free (drawV by_ (j + 5 + 8 * s.k + 1) (1 + drawV by_ (j + 4) 4)).toNat + drawV by_ (j + 5 + 8 * s.k + 1 + 1) 8) (by omega) by_ bc bb b1 _ w1 hB hf (j + 5 + 8 * s.k + 1 + 1 + 1 + 1 + 2) (by omega) hI)) rfl ?_)
        rintro _ _ _ ⟨_, _, ⟨s2, rfl, hs2, rfl, rfl⟩, rfl⟩
        refine ⟨(fun _ hI => Inv.nil hI), ?_⟩
        refine WH.yd (i := 10) (by kernel_rfl) (fun _ o v c a w _ h => (QuietPanic.then (QuietPanic.blk (QuietPanic.then (QuietPanic.then (QuietPanic.blk (QuietPanic.then QuietPanic.body)))))) c o.dst v a w h) rfl (Yd.build SA78 rfl (cs := [_, _, _, _, _]) rfl) rfl ?_
        refine WH.one (i := 11) (by kernel_rfl) (WHo.so rfl (SO.buildSlice Try.underlying33 Try.sizeOf78 Try.zeroValue78 rfl rfl rfl rfl (cs := [_, _, _, _, _]) rfl) rfl ?_)
        rintro _ _ _ ⟨b69, hb69, rfl, rfl, rfl⟩ -- NEW
        refine ⟨(fun _ hI => Inv.nil hI), ?_⟩
        refine WH.one (i := 12) (by kernel_rfl) (WHo.so rfl (SO.appendOw (o := s.o1) (len := s.k) (n := 1) (xs := (s.ts.flatMap tickC)) (size := 5) [_] [_, _, _] _ rfl rfl Try.underlying33 Try.sizeOf78 Try.typeInfo78 Try.zeroValue78 rfl rfl rfl rfl ⟨rfl, .inr ⟨_, _, _, rfl, RdN.own (k := 0) (n := 5) rfl rfl⟩⟩ (oneB_spec rfl) ho1 (by rw [flat_len tickC_len, hM.lt]) (by omega) (by show (2 * (_ + _) + 1000) * 40 ≤ 2 ^ 48; omega) (by omega)) rfl ?_)
        rintro _ _ _ ⟨u1, hu1, rfl, rfl, rfl⟩
        refine ⟨(fun _ hI => Inv.nil hI), ?_⟩
        refine WH.yd (i := 13) (by kernel_rfl) (fun _ o v c a w _ h => (QuietPanic.then (QuietPanic.blk (QuietPanic.then (QuietPanic.then (QuietPanic.blk (QuietPanic.then QuietPanic.body)))))) c o.dst v a w h) rfl (Yd.fieldAddr FA37_0 rfl) rfl ?_
        refine WH.yd (i := 14) (by kernel_rfl) (fun _ o v c a w _ h => (QuietPanic.then (QuietPanic.blk (QuietPanic.then (QuietPanic.then (QuietPanic.blk (QuietPanic.then QuietPanic.body)))))) c o.dst v a w h) rfl (Yd.fieldAddr FA35_1 rfl) rfl ?_
        refine WH.one (i := 15) (by kernel_rfl) (WHo.so rfl (SO.store 2 rfl Try.sizeOf33 rfl rfl rfl rfl (Nat.le_of_ble_eq_true rfl) (oneB_spec rfl)) rfl ?_)
        rintro _ _ _ ⟨rfl, rfl, rfl⟩
        refine ⟨(fun _ hI => Inv.nil hI), ?_⟩
        refine WH.nil (by kernel_rfl) ?_
        refine WP.thenC ?_
        refine WC.ofFr [(9, _), (1, _), (2, _), (3, _), (4, _), (5, _), (6, _), (8, _), (30, _), (31, _)] ⟨rfl, rfl, rfl, rfl, rfl, rfl, rfl, rfl, rfl, rfl, trivial⟩ ?_
        refine WC.region ?_
        refine WL.yd (Yd.move rfl) rfl ?_
        refine WL.yd (Yd.move rfl) rfl ?_
        refine WL.so (SO.buildSlice Try.underlying22 Try.sizeOf3 Try.zeroValue3 rfl rfl rfl rfl (cs := [_]) rfl) rfl ?_
        rintro _ _ _ ⟨b75, hb75, rfl, rfl, rfl⟩ -- NEW
        refine WL.so (SO.appendOw (o := s.o2) (len := s.k) (n := 1) (xs := (s.y.flatMap fstC)) (size := 1) [_] [_, _, _, _] _ rfl rfl Try.underlying22 Try.sizeOf3 Try.typeInfo3 Try.zeroValue3 rfl rfl rfl rfl ⟨rfl, .inr ⟨_, _, _, rfl, RdN.own (k := 0) (n := 1) rfl rfl⟩⟩ (oneB_spec rfl) ho2 (by rw [flat_len fstC_len, hM.ly]) (by omega) (by show (2 * (_ + _) + 1000) * 8 ≤ 2 ^ 48; omega) (by omega)) rfl ?_
        rintro _ _ _ ⟨u2, hu2, rfl, rfl, rfl⟩
        refine WL.yd (Yd.move rfl) rfl ?_
        refine WL.yd (Yd.move rfl) rfl ?_
        refine WL.so (SO.buildSlice Try.underlying22 Try.sizeOf3 Try.zeroValue3 rfl rfl rfl rfl (cs := [_]) rfl) rfl ?_
        rintro _ _ _ ⟨b79, hb79, rfl, rfl, rfl⟩ -- NEW
        refine WL.so (SO.appendOw (o := s.o3) (len := s.k) (n := 1) (xs := (s.y.flatMap sndC)) (size := 1) [_] [_, _, _, _, _] _ rfl rfl Try.underlying22 Try.sizeOf3 Try.typeInfo3 Try.zeroValue3 rfl rfl rfl rfl ⟨rfl, .inr ⟨_, _, _, rfl, RdN.own (k := 0) (n := 1) rfl rfl⟩⟩ (oneB_spec rfl) ho3 (by rw [flat_len sndC_len, hM.ly]) (by omega) (by show (2 * (_ + _) + 1000) * 8 ≤ 2 ^ 48; omega) (by omega)) rfl ?_
        rintro _ _ _ ⟨u3, hu3, rfl, rfl, rfl⟩
        refine WL.yd (Yd.assign rfl) rfl ?_
        refine WL.yd (Yd.assign rfl) rfl ?_
        refine WL.nil ?_
        refine WP.blkNormal ?_
        refine WP.thenC ?_
        refine WC.ofFr [(4, _), (3, _), (1, _), (2, _), (5, _), (6, _), (30, _), (31, _)] ⟨rfl, rfl, rfl, rfl, rfl, rfl, rfl, rfl, trivial⟩ ?_
        refine WC.region ?_
        refine WL.yd (Yd.addN (i := s.k) (j := 1) rfl rfl (by omega)) rfl ?_
        refine WL.yd (Yd.move rfl) rfl ?_
        refine WL.nil ?_
        have hM2 := hM.step hk5 hlt (a := (max 0 ((gt s.free (drawV by_ (j + 5 + 8 * s.k + 1) (1 + drawV by_ (j + 4) 4)).toNat + drawV by_ (j + 5 + 8 * s.k + 1 + 1) 8) - drawV by_ (j + 5 + 8 * s.k + 1 + 1 + 1) 50))) (b := (gt s.free (drawV by_ (j + 5 + 8 * s.k + 1) (1 + drawV by_ (j + 4) 4)).toNat + drawV by_ (j + 5 + 8 * s.k + 1 + 1) 8)) (e := ((gt s.free (drawV by_ (j + 5 + 8 * s.k + 1) (1 + drawV by_ (j + 4) 4)).toNat + drawV by_ (j + 5 + 8 * s.k + 1 + 1) 8) + 30 + drawV by_ (j + 5 + 8 * s.k + 1 + 1 + 1 + 1) 3)) (sa := s1) (sb := s2) (by omega) (by omega) (by omega) hs1 hs2
        refine WP.again (⟨s.k + 1, s.ts ++ [⟨s1, ((drawV by_ (j + 5 + 8 * s.k + 1) (1 + drawV by_ (j + 4) 4)).toNat : Int), s2⟩], s.y ++ [((max 0 ((gt s.free (drawV by_ (j + 5 + 8 * s.k + 1) (1 + drawV by_ (j + 4) 4)).toNat + drawV by_ (j + 5 + 8 * s.k + 1 + 1) 8) - drawV by_ (j + 5 + 8 * s.k + 1 + 1 + 1) 50)), (gt s.free (drawV by_ (j + 5 + 8 * s.k + 1) (1 + drawV by_ (j + 4) 4)).toNat + drawV by_ (j + 5 + 8 * s.k + 1 + 1) 8))], s.free.set (drawV by_ (j + 5 + 8 * s.k + 1) (1 + drawV by_ (j + 4) 4)).toNat ((gt s.free (drawV by_ (j + 5 + 8 * s.k + 1) (1 + drawV by_ (j + 4) 4)).toNat + drawV by_ (j + 5 + 8 * s.k + 1 + 1) 8) + 30 + drawV by_ (j + 5 + 8 * s.k + 1 + 1 + 1 + 1) 3), some u1, some u2, some u3⟩ : MSt) ⟨by simp only; omega, hM2, hu1, hu2, hu3⟩ (by simp only; omega) (fun aa ww h => ?_)
        show At _ [(1, pt b1), (2, pt b2), (3, owV (some u2) (s.k + 1)), (4, owV (some u3) (s.k + 1)), (5, .slice (some ⟨b27, 0, none⟩) (1 + drawV by_ (j + 4) 4).toNat (1 + drawV by_ (j + 4) 4).toNat), (6, .func (.func 58) #[] #[pt b1]), (30, it (drawV by_ (j + 5) 6)), (31, nt (s.k + 1))] D1 ((bc, cntO (j + 5 + 8 * (s.k + 1))) :: (b27, .cells (List.toArray ((s.free.set (drawV by_ (j + 5 + 8 * s.k + 1) (1 + drawV by_ (j + 4) 4)).toNat ((gt s.free (drawV by_ (j + 5 + 8 * s.k + 1) (1 + drawV by_ (j + 4) 4)).toNat + drawV by_ (j + 5 + 8 * s.k + 1 + 1) 8) + 30 + drawV by_ (j + 5 + 8 * s.k + 1 + 1 + 1 + 1) 3)).map it ++ [])) 3 (0, 0)) :: (b2, .cells (List.toArray [it (1 + drawV by_ (j + 4) 4), owV (some u1) (s.k + 1), it (drawV by_ (j + 1) 101), it (drawV by_ (j + 2) 101), it (drawV by_ (j + 3) 101)]) 37 (0, 0)) :: owH (some u1) 78 ((s.ts ++ [(⟨s1, ((drawV by_ (j + 5 + 8 * s.k + 1) (1 + drawV by_ (j + 4) 4)).toNat : Int), s2⟩ : Tick)]).flatMap tickC) (owH (some u2) 3 ((s.y ++ [((max 0 ((gt s.free (drawV by_ (j + 5 + 8 * s.k + 1) (1 + drawV by_ (j + 4) 4)).toNat + drawV by_ (j + 5 + 8 * s.k + 1 + 1) 8) - drawV by_ (j + 5 + 8 * s.k + 1 + 1 + 1) 50)), (gt s.free (drawV by_ (j + 5 + 8 * s.k + 1) (1 + drawV by_ (j + 4) 4)).toNat + drawV by_ (j + 5 + 8 * s.k + 1 + 1) 8))]).flatMap fstC) (owH (some u3) 3 ((s.y ++ [((max 0 ((gt s.free (drawV by_ (j + 5 + 8 * s.k + 1) (1 + drawV by_ (j + 4) 4)).toNat + drawV by_ (j + 5 + 8 * s.k + 1 + 1) 8) - drawV by_ (j + 5 + 8 * s.k + 1 + 1 + 1) 50)), (gt s.free (drawV by_ (j + 5 + 8 * s.k + 1) (1 + drawV by_ (j + 4) 4)).toNat + drawV by_ (j + 5 + 8 * s.k + 1 + 1) 8))]).flatMap sndC) []))) aa ww
        rw [tickC_snoc, fstC_snoc, sndC_snoc]
        exact at_fr h ⟨rfl, rfl, rfl, rfl, rfl, rfl, rfl, rfl, trivial⟩
      · refine WHo.so rfl (SO.altersNF (own := _) (hpc := [(bc, cntO (j + 5 + 8 * s.k + 1 + 1 + 1 + 1))]) (S1 := [bc]) rfl (fun _ h => h) (fun _ h => h) (Enters.val Try.call58 rfl rfl) (fun w1 hI => arnd_g (max 0 ((gt s.free (drawV by_ (j + 5 + 8 * s.k + 1) (1 + drawV by_ (j + 4) 4)).toNat + drawV by_ (j + 5 + 8 * s.k + 1 + 1) 8) - drawV by_ (j + 5 + 8 * s.k + 1 + 1 + 1) 50)) (by omega) by_ bc bb b1 _ w1 hB hf (j + 5 + 8 * s.k + 1 + 1 + 1 + 1) (by omega) hI)) rfl ?_
        rintro _ _ _ ⟨_, _, ⟨s1, rfl, hs1, rfl, rfl⟩, rfl⟩
        refine ⟨(fun _ hI => Inv.nil hI), ?_⟩
        refine WH.two (i := 2) (j := 9) (by kernel_rfl) ?_ ?_
        · refine WHo.yd rfl (Yd.load1 Try.isAgg33 rfl (by first | exact Rd.own (k := 0) rfl rfl | exact Rd.own (k := 1) rfl rfl | exact Rd.own (k := 2) rfl rfl | exact Rd.own (k := 3) rfl rfl | exact Rd.own (k := 4) rfl rfl | exact Rd.own (k := 5) rfl rfl | exact (Rd.imm hf rfl))) rfl ?_
          refine WH.one (i := 9) (by kernel_rfl) (WHo.so rfl (SO.altersNF (own := _) (hpc := [(bc, cntO (j + 5 + 8 * s.k + 1 + 1 + 1 + 1 + 2))]) (S1 := [bc]) rfl (fun _ h => h) (fun _ h => h) (Enters.val Try.call58 rfl rfl) (fun w1 hI => arnd_g (gt s.free (drawV by_ (j + 5 + 8 * s.k + 1) (1 + drawV by_ (j + 4) 4)).toNat + drawV by_ (j + 5 + 8 * s.k + 1 + 1) 8) (by omega) by_ bc bb b1 _ w1 hB hf (j + 5 + 8 * s.k + 1 + 1 + 1 + 1 + 2) (by omega) hI)) rfl ?_)
          rintro _ _ _ ⟨_, _, ⟨s2, rfl, hs2, rfl, rfl⟩, rfl⟩
          refine ⟨(fun _ hI => Inv.nil hI), ?_⟩
          refine WH.yd (i := 10) (by kernel_rfl) (fun _ o v c a w _ h => (QuietPanic.then (QuietPanic.blk (QuietPanic.then (QuietPanic.then (QuietPanic.blk (QuietPanic.then QuietPanic.body)))))) c o.dst v a w h) rfl (Yd.build SA78 rfl (cs := [_, _, _, _, _]) rfl) rfl ?_
          refine WH.one (i := 11) (by kernel_rfl) (WHo.so rfl (SO.buildSlice Try.underlying33 Try.sizeOf78 Try.zeroValue78 rfl rfl rfl rfl (cs := [_, _, _, _, _]) rfl) rfl ?_)
          rintro _ _ _ ⟨b69, hb69, rfl, rfl, rfl⟩ -- NEW
          refine ⟨(fun _ hI => Inv.nil hI), ?_⟩
          refine WH.one (i := 12) (by kernel_rfl) (WHo.so rfl (SO.appendOw (o := s.o1) (len := s.k) (n := 1) (xs := (s.ts.flatMap tickC)) (size := 5) [_] [_, _, _] _ rfl rfl Try.underlying33 Try.sizeOf78 Try.typeInfo78 Try.zeroValue78 rfl rfl rfl rfl ⟨rfl, .inr ⟨_, _, _, rfl, RdN.own (k := 0) (n := 5) rfl rfl⟩⟩ (oneB_spec rfl) ho1 (by rw [flat_len tickC_len, hM.lt]) (by omega) (by show (2 * (_ + _) + 1000) * 40 ≤ 2 ^ 48; omega) (by omega)) rfl ?_)
          rintro _ _ _ ⟨u1, hu1, rfl, rfl, rfl⟩
          refine ⟨(fun _ hI => Inv.nil hI), ?_⟩
          refine WH.yd (i := 13) (by kernel_rfl) (fun _ o v c a w _ h => (QuietPanic.then (QuietPanic.blk (QuietPanic.then (QuietPanic.then (QuietPanic.blk (QuietPanic.then QuietPanic.body)))))) c o.dst v a w h) rfl (Yd.fieldAddr FA37_0 rfl) rfl ?_
          refine WH.yd (i := 14) (by kernel_rfl) (fun _ o v c a w _ h => (QuietPanic.then (QuietPanic.blk (QuietPanic.then (QuietPanic.then (QuietPanic.blk (QuietPanic.then QuietPanic.body)))))) c o.dst v a w h) rfl (Yd.fieldAddr FA35_1 rfl) rfl ?_
          refine WH.one (i := 15) (by kernel_rfl) (WHo.so rfl (SO.store 2 rfl Try.sizeOf33 rfl rfl rfl rfl (Nat.le_of_ble_eq_true rfl) (oneB_spec rfl)) rfl ?_)
          rintro _ _ _ ⟨rfl, rfl, rfl⟩
          refine ⟨(fun _ hI => Inv.nil hI), ?_⟩
          refine WH.nil (by kernel_rfl) ?_
          refine WP.thenC ?_
          refine WC.ofFr [(9, _), (1, _), (2, _), (3, _), (4, _), (5, _), (6, _), (8, _), (30, _), (31, _)] ⟨rfl, rfl, rfl, rfl, rfl, rfl, rfl, rfl, rfl, rfl, trivial⟩ ?_
          refine WC.region ?_
          refine WL.yd (Yd.move rfl) rfl ?_
          refine WL.yd (Yd.move rfl) rfl ?_
          refine WL.so (SO.buildSlice Try.underlying22 Try.sizeOf3 Try.zeroValue3 rfl rfl rfl rfl (cs := [_]) rfl) rfl ?_
          rintro _ _ _ ⟨b75, hb75, rfl, rfl, rfl⟩ -- NEW
          refine WL.so (SO.appendOw (o := s.o2) (len := s.k) (n := 1) (xs := (s.y.flatMap fstC)) (size := 1) [_] [_, _, _, _] _ rfl rfl Try.underlying22 Try.sizeOf3 Try.typeInfo3 Try.zeroValue3 rfl rfl rfl rfl ⟨rfl, .inr ⟨_, _, _, rfl, RdN.own (k := 0) (n := 1) rfl rfl⟩⟩ (oneB_spec rfl) ho2 (by rw [flat_len fstC_len, hM.ly]) (by omega) (by show (2 * (_ + _) + 1000) * 8 ≤ 2 ^ 48; omega) (by omega)) rfl ?_
          rintro _ _ _ ⟨u2, hu2, rfl, rfl, rfl⟩
          refine WL.yd (Yd.move rfl) rfl ?_
          refine WL.yd (Yd.move rfl) rfl ?_
          refine WL.so (SO.buildSlice Try.underlying22 Try.sizeOf3 Try.zeroValue3 rfl rfl rfl rfl (cs := [_]) rfl) rfl ?_
          rintro _ _ _ ⟨b79, hb79, rfl, rfl, rfl⟩ -- NEW
          refine WL.so (SO.appendOw (o := s.o3) (len := s.k) (n := 1) (xs := (s.y.flatMap sndC)) (size := 1) [_] [_, _, _, _, _] _ rfl rfl Try.underlying22 Try.sizeOf3 Try.typeInfo3 Try.zeroValue3 rfl rfl rfl rfl ⟨rfl, .inr ⟨_, _, _, rfl, RdN.own (k := 0) (n := 1) rfl rfl⟩⟩ (oneB_spec rfl) ho3 (by rw [flat_len sndC_len, hM.ly]) (by omega) (by show (2 * (_ + _) + 1000) * 8 ≤ 2 ^ 48; omega) (by omega)) rfl ?_
          rintro _ _ _ ⟨u3, hu3, rfl, rfl, rfl⟩
          refine WL.yd (Yd.assign rfl) rfl ?_
          refine WL.yd (Yd.assign rfl) rfl ?_
          refine WL.nil ?_
          refine WP.blkNormal ?_
          refine WP.thenC ?_
          refine WC.ofFr [(4, _), (3, _), (1, _), (2, _), (5, _), (6, _), (30, _), (31, _)] ⟨rfl, rfl, rfl, rfl, rfl, rfl, rfl, rfl, trivial⟩ ?_
          refine WC.region ?_
          refine WL.yd (Yd.addN (i := s.k) (j := 1) rfl rfl (by omega)) rfl ?_
          refine WL.yd (Yd.move rfl) rfl ?_
          refine WL.nil ?_
          have hM2 := hM.step hk5 hlt (a := (max 0 ((gt s.free (drawV by_ (j + 5 + 8 * s.k + 1) (1 + drawV by_ (j + 4) 4)).toNat + drawV by_ (j + 5 + 8 * s.k + 1 + 1) 8) - drawV by_ (j + 5 + 8 * s.k + 1 + 1 + 1) 50))) (b := (gt s.free (drawV by_ (j + 5 + 8 * s.k + 1) (1 + drawV by_ (j + 4) 4)).toNat + drawV by_ (j + 5 + 8 * s.k + 1 + 1) 8)) (e := ((gt s.free (drawV by_ (j + 5 + 8 * s.k + 1) (1 + drawV by_ (j + 4) 4)).toNat + drawV by_ (j + 5 + 8 * s.k + 1 + 1) 8) + 30 + drawV by_ (j + 5 + 8 * s.k + 1 + 1 + 1 + 1) 3)) (sa := s1) (sb := s2) (by omega) (by omega) (by omega) hs1 hs2
          refine WP.again (⟨s.k + 1, s.ts ++ [⟨s1, ((drawV by_ (j + 5 + 8 * s.k + 1) (1 + drawV by_ (j + 4) 4)).toNat : Int), s2⟩], s.y ++ [((max 0 ((gt s.free (drawV by_ (j + 5 + 8 * s.k + 1) (1 + drawV by_ (j + 4) 4)).toNat + drawV by_ (j + 5 + 8 * s.k + 1 + 1) 8) - drawV by_ (j + 5 + 8 * s.k + 1 + 1 + 1) 50)), (gt s.free (drawV by_ (j + 5 + 8 * s.k + 1) (1 + drawV by_ (j + 4) 4)).toNat + drawV by_ (j + 5 + 8 * s.k + 1 + 1) 8))], s.free.set (drawV by_ (j + 5 + 8 * s.k + 1) (1 + drawV by_ (j + 4) 4)).toNat ((gt s.free (drawV by_ (j + 5 + 8 * s.k + 1) (1 + drawV by_ (j + 4) 4)).toNat + drawV by_ (j + 5 + 8 * s.k + 1 + 1) 8) + 30 + drawV by_ (j + 5 + 8 * s.k + 1 + 1 + 1 + 1) 3), some u1, some u2, some u3⟩ : MSt) ⟨by simp only; omega, hM2, hu1, hu2, hu3⟩ (by simp only; omega) (fun aa ww h => ?_)
          show At _ [(1, pt b1), (2, pt b2), (3, owV (some u2) (s.k + 1)), (4, owV (some u3) (s.k + 1)), (5, .slice (some ⟨b27, 0, none⟩) (1 + drawV by_ (j + 4) 4).toNat (1 + drawV by_ (j + 4) 4).toNat), (6, .func (.func 58) #[] #[pt b1]), (30, it (drawV by_ (j + 5) 6)), (31, nt (s.k + 1))] D1 ((bc, cntO (j + 5 + 8 * (s.k + 1))) :: (b27, .cells (List.toArray ((s.free.set (drawV by_ (j + 5 + 8 * s.k + 1) (1 + drawV by_ (j + 4) 4)).toNat ((gt s.free (drawV by_ (j + 5 + 8 * s.k + 1) (1 + drawV by_ (j + 4) 4)).toNat + drawV by_ (j + 5 + 8 * s.k + 1 + 1) 8) + 30 + drawV by_ (j + 5 + 8 * s.k + 1 + 1 + 1 + 1) 3)).map it ++ [])) 3 (0, 0)) :: (b2, .cells (List.toArray [it (1 + drawV by_ (j + 4) 4), owV (some u1) (s.k + 1), it (drawV by_ (j + 1) 101), it (drawV by_ (j + 2) 101), it (drawV by_ (j + 3) 101)]) 37 (0, 0)) :: owH (some u1) 78 ((s.ts ++ [(⟨s1, ((drawV by_ (j + 5 + 8 * s.k + 1) (1 + drawV by_ (j + 4) 4)).toNat : Int), s2⟩ : Tick)]).flatMap tickC) (owH (some u2) 3 ((s.y ++ [((max 0 ((gt s.free (drawV by_ (j + 5 + 8 * s.k + 1) (1 + drawV by_ (j + 4) 4)).toNat + drawV by_ (j + 5 + 8 * s.k + 1 + 1) 8) - drawV by_ (j + 5 + 8 * s.k + 1 + 1 + 1) 50)), (gt s.free (drawV by_ (j + 5 + 8 * s.k + 1) (1 + drawV by_ (j + 4) 4)).toNat + drawV by_ (j + 5 + 8 * s.k + 1 + 1) 8))]).flatMap fstC) (owH (some u3) 3 ((s.y ++ [((max 0 ((gt s.free (drawV by_ (j + 5 + 8 * s.k + 1) (1 + drawV by_ (j + 4) 4)).toNat + drawV by_ (j + 5 + 8 * s.k + 1 + 1) 8) - drawV by_ (j + 5 + 8 * s.k + 1 + 1 + 1) 50)), (gt s.free (drawV by_ (j + 5 + 8 * s.k + 1) (1 + drawV by_ (j + 4) 4)).toNat + drawV by_ (j + 5 + 8 * s.k + 1 + 1) 8))]).flatMap sndC) []))) aa ww
          rw [tickC_snoc, fstC_snoc, sndC_snoc]
          exact at_fr h ⟨rfl, rfl, rfl, rfl, rfl, rfl, rfl, rfl, trivial⟩
        · refine WHo.so rfl (SO.altersNF (own := _) (hpc := [(bc, cntO (j + 5 + 8 * s.k + 1 + 1 + 1 + 1 + 2))]) (S1 := [bc]) rfl (fun _ h => h) (fun _ h => h) (Enters.val Try.call58 rfl rfl) (fun w1 hI => arnd_g (gt s.free (drawV by_ (j + 5 + 8 * s.k + 1) (1 + drawV by_ (j + 4) 4)).toNat + drawV by_ (j + 5 + 8 * s.k + 1 + 1) 8) (by omega) by_ bc bb b1 _ w1 hB hf (j + 5 + 8 * s.k + 1 + 1 + 1 + 1 + 2) (by omega) hI)) rfl ?_
          rintro _ _ _ ⟨_, _, ⟨s2, rfl, hs2, rfl, rfl⟩, rfl⟩
          refine ⟨(fun _ hI => Inv.nil hI), ?_⟩
          refine WH.yd (i := 10) (by kernel_rfl) (fun _ o v c a w _ h => (QuietPanic.then (QuietPanic.blk (QuietPanic.then (QuietPanic.then (QuietPanic.blk (QuietPanic.then QuietPanic.body)))))) c o.dst v a w h) rfl (Yd.build SA78 rfl (cs := [_, _, _, _, _]) rfl) rfl ?_
          refine WH.two (i := 2) (j := 11) (by kernel_rfl) ?_ ?_
          · refine WHo.yd rfl (Yd.load1 Try.isAgg33 rfl (by first | exact Rd.own (k := 0) rfl rfl | exact Rd.own (k := 1) rfl rfl | exact Rd.own (k := 2) rfl rfl | exact Rd.own (k := 3) rfl rfl | exact Rd.own (k := 4) rfl rfl | exact Rd.own (k := 5) rfl rfl | exact (Rd.imm hf rfl))) rfl ?_
            refine WH.one (i := 11) (by kernel_rfl) (WHo.so rfl (SO.buildSlice Try.underlying33 Try.sizeOf78 Try.zeroValue78 rfl rfl rfl rfl (cs := [_, _, _, _, _]) rfl) rfl ?_)
            rintro _ _ _ ⟨b69, hb69, rfl, rfl, rfl⟩ -- NEW
            refine ⟨(fun _ hI => Inv.nil hI), ?_⟩
            refine WH.one (i := 12) (by kernel_rfl) (WHo.so rfl (SO.appendOw (o := s.o1) (len := s.k) (n := 1) (xs := (s.ts.flatMap tickC)) (size := 5) [_] [_, _, _] _ rfl rfl Try.underlying33 Try.sizeOf78 Try.typeInfo78 Try.zeroValue78 rfl rfl rfl rfl ⟨rfl, .inr ⟨_, _, _, rfl, RdN.own (k := 0) (n := 5) rfl rfl⟩⟩ (oneB_spec rfl) ho1 (by rw [flat_len tickC_len, hM.lt]) (by omega) (by show (2 * (_ + _) + 1000) * 40 ≤ 2 ^ 48; omega) (by omega)) rfl ?_)
            rintro _ _ _ ⟨u1, hu1, rfl, rfl, rfl⟩
            refine ⟨(fun _ hI => Inv.nil hI), ?_⟩
            refine WH.yd (i := 13) (by kernel_rfl) (fun _ o v c a w _ h => (QuietPanic.then (QuietPanic.blk (QuietPanic.then (QuietPanic.then (QuietPanic.blk (QuietPanic.then QuietPanic.body)))))) c o.dst v a w h) rfl (Yd.fieldAddr FA37_0 rfl) rfl ?_
            refine WH.yd (i := 14) (by kernel_rfl) (fun _ o v c a w _ h => (QuietPanic.then (QuietPanic.blk (QuietPanic.then (QuietPanic.then (QuietPanic.blk (QuietPanic.then QuietPanic.body)))))) c o.dst v a w h) rfl (Yd.fieldAddr FA35_1 rfl) rfl ?_
            refine WH.one (i := 15) (by kernel_rfl) (WHo.so rfl (SO.store 2 rfl Try.sizeOf33 rfl rfl rfl rfl (Nat.le_of_ble_eq_true rfl) (oneB_spec rfl)) rfl ?_)
            rintro _ _ _ ⟨rfl, rfl, rfl⟩
            refine ⟨(fun _ hI => Inv.nil hI), ?_⟩
            refine WH.nil (by kernel_rfl) ?_
            refine WP.thenC ?_
            refine WC.ofFr [(9, _), (1, _), (2, _), (3, _), (4, _), (5, _), (6, _), (8, _), (30, _), (31, _)] ⟨rfl, rfl, rfl, rfl, rfl, rfl, rfl, rfl, rfl, rfl, trivial⟩ ?_
            refine WC.region ?_
            refine WL.yd (Yd.move rfl) rfl ?_
            refine WL.yd (Yd.move rfl) rfl ?_
            refine WL.so (SO.buildSlice Try.underlying22 Try.sizeOf3 Try.zeroValue3 rfl rfl rfl rfl (cs := [_]) rfl) rfl ?_
            rintro _ _ _ ⟨b75, hb75, rfl, rfl, rfl⟩ -- NEW
            refine WL.so (SO.appendOw (o := s.o2) (len := s.k) (n := 1) (xs := (s.y.flatMap fstC)) (size := 1) [_] [_, _, _, _] _ rfl rfl Try.underlying22 Try.sizeOf3 Try.typeInfo3 Try.zeroValue3 rfl rfl rfl rfl ⟨rfl, .inr ⟨_, _, _, rfl, RdN.own (k := 0) (n := 1) rfl rfl⟩⟩ (oneB_spec rfl) ho2 (by rw [flat_len fstC_len, hM.ly]) (by omega) (by show (2 * (_ + _) + 1000) * 8 ≤ 2 ^ 48; omega) (by omega)) rfl ?_
            rintro _ _ _ ⟨u2, hu2, rfl, rfl, rfl⟩
            refine WL.yd (Yd.move rfl) rfl ?_
            refine WL.yd (Yd.move rfl) rfl ?_
            refine WL.so (SO.buildSlice Try.underlying22 Try.sizeOf3 Try.zeroValue3 rfl rfl rfl rfl (cs := [_]) rfl) rfl ?_
            rintro _ _ _ ⟨b79, hb79, rfl, rfl, rfl⟩ -- NEW
            refine WL.so (SO.appendOw (o := s.o3) (len := s.k) (n := 1) (xs := (s.y.flatMap sndC)) (size := 1) [_] [_, _, _, _, _] _ rfl rfl Try.underlying22 Try.sizeOf3 Try.typeInfo3 Try.zeroValue3 rfl rfl rfl rfl ⟨rfl, .inr ⟨_, _, _, rfl, RdN.own (k := 0) (n := 1) rfl rfl⟩⟩ (oneB_spec rfl) ho3 (by rw [flat_len sndC_len, hM.ly]) (by omega) (by show (2 * (_ + _) + 1000) * 8 ≤ 2 ^ 48; omega) (by omega)) rfl ?_
            rintro _ _ _ ⟨u3, hu3, rfl, rfl, rfl⟩
            refine WL.yd (Yd.assign rfl) rfl ?_
            refine WL.yd (Yd.assign rfl) rfl ?_
            refine WL.nil ?_
            refine WP.blkNormal ?_
            refine WP.thenC ?_
            refine WC.ofFr [(4, _), (3, _), (1, _), (2, _), (5, _), (6, _), (30, _), (31, _)] ⟨rfl, rfl, rfl, rfl, rfl, rfl, rfl, rfl, trivial⟩ ?_
            refine WC.region ?_
            refine WL.yd (Yd.addN (i := s.k) (j := 1) rfl rfl (by omega)) rfl ?_
            refine WL.yd (Yd.move rfl) rfl ?_
            refine WL.nil ?_
            have hM2 := hM.step hk5 hlt (a := (max 0 ((gt s.free (drawV by_ (j + 5 + 8 * s.k + 1) (1 + drawV by_ (j + 4) 4)).toNat + drawV by_ (j + 5 + 8 * s.k + 1 + 1) 8) - drawV by_ (j + 5 + 8 * s.k + 1 + 1 + 1) 50))) (b := (gt s.free (drawV by_ (j + 5 + 8 * s.k + 1) (1 + drawV by_ (j + 4) 4)).toNat + drawV by_ (j + 5 + 8 * s.k + 1 + 1) 8)) (e := ((gt s.free (drawV by_ (j + 5 + 8 * s.k + 1) (1 + drawV by_ (j + 4) 4)).toNat + drawV by_ (j + 5 + 8 * s.k + 1 + 1) 8) + 30 + drawV by_ (j + 5 + 8 * s.k + 1 + 1 + 1 + 1) 3)) (sa := s1) (sb := s2) (by omega) (by omega) (by omega) hs1 hs2
            refine WP.again (⟨s.k + 1, s.ts ++ [⟨s1, ((drawV by_ (j + 5 + 8 * s.k + 1) (1 + drawV by_ (j + 4) 4)).toNat : Int), s2⟩], s.y ++ [((max 0 ((gt s.free (drawV by_ (j + 5 + 8 * s.k + 1) (1 + drawV by_ (j + 4) 4)).toNat + drawV by_ (j + 5 + 8 * s.k + 1 + 1) 8) - drawV by_ (j + 5 + 8 * s.k + 1 + 1 + 1) 50)), (gt s.free (drawV by_ (j + 5 + 8 * s.k + 1) (1 + drawV by_ (j + 4) 4)).toNat + drawV by_ (j + 5 + 8 * s.k + 1 + 1) 8))], s.free.set (drawV by_ (j + 5 + 8 * s.k + 1) (1 + drawV by_ (j + 4) 4)).toNat ((gt s.free (drawV by_ (j + 5 + 8 * s.k + 1) (1 + drawV by_ (j + 4) 4)).toNat + drawV by_ (j + 5 + 8 * s.k + 1 + 1) 8) + 30 + drawV by_ (j + 5 + 8 * s.k + 1 + 1 + 1 + 1) 3), some u1, some u2, some u3⟩ : MSt) ⟨by simp only; omega, hM2, hu1, hu2, hu3⟩ (by simp only; omega) (fun aa ww h => ?_)
            show At _ [(1, pt b1), (2, pt b2), (3, owV (some u2) (s.k + 1)), (4, owV (some u3) (s.k + 1)), (5, .slice (some ⟨b27, 0, none⟩) (1 + drawV by_ (j + 4) 4).toNat (1 + drawV by_ (j + 4) 4).toNat), (6, .func (.func 58) #[] #[pt b1]), (30, it (drawV by_ (j + 5) 6)), (31, nt (s.k + 1))] D1 ((bc, cntO (j + 5 + 8 * (s.k + 1))) :: (b27, .cells (List.toArray ((s.free.set (drawV by_ (j + 5 + 8 * s.k + 1) (1 + drawV by_ (j + 4) 4)).toNat ((gt s.free (drawV by_ (j + 5 + 8 * s.k + 1) (1 + drawV by_ (j + 4) 4)).toNat + drawV by_ (j + 5 + 8 * s.k + 1 + 1) 8) + 30 + drawV by_ (j + 5 + 8 * s.k + 1 + 1 + 1 + 1) 3)).map it ++ [])) 3 (0, 0)) :: (b2, .cells (List.toArray [it (1 + drawV by_ (j + 4) 4), owV (some u1) (s.k + 1), it (drawV by_ (j + 1) 101), it (drawV by_ (j + 2) 101), it (drawV by_ (j + 3) 101)]) 37 (0, 0)) :: owH (some u1) 78 ((s.ts ++ [(⟨s1, ((drawV by_ (j + 5 + 8 * s.k + 1) (1 + drawV by_ (j + 4) 4)).toNat : Int), s2⟩ : Tick)]).flatMap tickC) (owH (some u2) 3 ((s.y ++ [((max 0 ((gt s.free (drawV by_ (j + 5 + 8 * s.k + 1) (1 + drawV by_ (j + 4) 4)).toNat + drawV by_ (j + 5 + 8 * s.k + 1 + 1) 8) - drawV by_ (j + 5 + 8 * s.k + 1 + 1 + 1) 50)), (gt s.free (drawV by_ (j + 5 + 8 * s.k + 1) (1 + drawV by_ (j + 4) 4)).toNat + drawV by_ (j + 5 + 8 * s.k + 1 + 1) 8))]).flatMap fstC) (owH (some u3) 3 ((s.y ++ [((max 0 ((gt s.free (drawV by_ (j + 5 + 8 * s.k + 1) (1 + drawV by_ (j + 4) 4)).toNat + drawV by_ (j + 5 + 8 * s.k + 1 + 1) 8) - drawV by_ (j + 5 + 8 * s.k + 1 + 1 + 1) 50)), (gt s.free (drawV by_ (j + 5 + 8 * s.k + 1) (1 + drawV by_ (j + 4) 4)).toNat + drawV by_ (j + 5 + 8 * s.k + 1 + 1) 8))]).flatMap sndC) []))) aa ww
            rw [tickC_snoc, fstC_snoc, sndC_snoc]
            exact at_fr h ⟨rfl, rfl, rfl, rfl, rfl, rfl, rfl, rfl, trivial⟩
          · refine WHo.so rfl (SO.buildSlice Try.underlying33 Try.sizeOf78 Try.zeroValue78 rfl rfl rfl rfl (cs := [_, _, _, _, _]) rfl) rfl ?_
            rintro _ _ _ ⟨b69, hb69, rfl, rfl, rfl⟩ -- NEW
            refine ⟨(fun _ hI => Inv.nil hI), ?_⟩
            refine WH.one (i := 2) (by kernel_rfl) (WHo.yd rfl (Yd.load1 Try.isAgg33 rfl (by first | exact Rd.own (k := 0) rfl rfl | exact Rd.own (k := 1) rfl rfl | exact Rd.own (k := 2) rfl rfl | exact Rd.own (k := 3) rfl rfl | exact Rd.own (k := 4) rfl rfl | exact Rd.own (k := 5) rfl rfl | exact Rd.own (k := 6) rfl rfl | exact (Rd.imm hf rfl))) rfl ?_)
            refine WH.one (i := 12) (by kernel_rfl) (WHo.so rfl (SO.appendOw (o := s.o1) (len := s.k) (n := 1) (xs := (s.ts.flatMap tickC)) (size := 5) [_] [_, _, _] _ rfl rfl Try.underlying33 Try.sizeOf78 Try.typeInfo78 Try.zeroValue78 rfl rfl rfl rfl ⟨rfl, .inr ⟨_, _, _, rfl, RdN.own (k := 0) (n := 5) rfl rfl⟩⟩ (oneB_spec rfl) ho1 (by rw [flat_len tickC_len, hM.lt]) (by omega) (by show (2 * (_ + _) + 1000) * 40 ≤ 2 ^ 48; omega) (by omega)) rfl ?_)
            rintro _ _ _ ⟨u1, hu1, rfl, rfl, rfl⟩
            refine ⟨(fun _ hI => Inv.nil hI), ?_⟩
            refine WH.yd (i := 13) (by kernel_rfl) (fun _ o v c a w _ h => (QuietPanic.then (QuietPanic.blk (QuietPanic.then (QuietPanic.then (QuietPanic.blk (QuietPanic.then QuietPanic.body)))))) c o.dst v a w h) rfl (Yd.fieldAddr FA37_0 rfl) rfl ?_
            refine WH.yd (i := 14) (by kernel_rfl) (fun _ o v c a w _ h => (QuietPanic.then (QuietPanic.blk (QuietPanic.then (QuietPanic.then (QuietPanic.blk (QuietPanic.then QuietPanic.body)))))) c o.dst v a w h) rfl (Yd.fieldAddr FA35_1 rfl) rfl ?_
            refine WH.one (i := 15) (by kernel_rfl) (WHo.so rfl (SO.store 2 rfl Try.sizeOf33 rfl rfl rfl rfl (Nat.le_of_ble_eq_true rfl) (oneB_spec rfl)) rfl ?_)
            rintro _ _ _ ⟨rfl, rfl, rfl⟩
            refine ⟨(fun _ hI => Inv.nil hI), ?_⟩
            refine WH.nil (by kernel_rfl) ?_
            refine WP.thenC ?_
            refine WC.ofFr [(9, _), (1, _), (2, _), (3, _), (4, _), (5, _), (6, _), (8, _), (30, _), (31, _)] ⟨rfl, rfl, rfl, rfl, rfl, rfl, rfl, rfl, rfl, rfl, trivial⟩ ?_
            refine WC.region ?_
            refine WL.yd (Yd.move rfl) rfl ?_
            refine WL.yd (Yd.move rfl) rfl ?_
            refine WL.so (SO.buildSlice Try.underlying22 Try.sizeOf3 Try.zeroValue3 rfl rfl rfl rfl (cs := [_]) rfl) rfl ?_
            rintro _ _ _ ⟨b75, hb75, rfl, rfl, rfl⟩ -- NEW
            refine WL.so (SO.appendOw (o := s.o2) (len := s.k) (n := 1) (xs := (s.y.flatMap fstC)) (size := 1) [_] [_, _, _, _] _ rfl rfl Try.underlying22 Try.sizeOf3 Try.typeInfo3 Try.zeroValue3 rfl rfl rfl rfl ⟨rfl, .inr ⟨_, _, _, rfl, RdN.own (k := 0) (n := 1) rfl rfl⟩⟩ (oneB_spec rfl) ho2 (by rw [flat_len fstC_len, hM.ly]) (by omega) (by show (2 * (_ + _) + 1000) * 8 ≤ 2 ^ 48; omega) (by omega)) rfl ?_
            rintro _ _ _ ⟨u2, hu2, rfl, rfl, rfl⟩
            refine WL.yd (Yd.move rfl) rfl ?_
            refine WL.yd (Yd.move rfl) rfl ?_
            refine WL.so (SO.buildSlice Try.underlying22 Try.sizeOf3 Try.zeroValue3 rfl rfl rfl rfl (cs := [_]) rfl) rfl ?_
            rintro _ _ _ ⟨b79, hb79, rfl, rfl, rfl⟩ -- NEW
            refine WL.so (SO.appendOw (o := s.o3) (len := s.k) (n := 1) (xs := (s.y.flatMap sndC)) (size := 1) [_] [_, _, _, _, _] _ rfl rfl Try.underlying22 Try.sizeOf3 Try.typeInfo3 Try.zeroValue3 rfl rfl rfl rfl ⟨rfl, .inr ⟨_, _, _, rfl, RdN.own (k := 0) (n := 1) rfl rfl⟩⟩ (oneB_spec rfl) ho3 (by rw [flat_len sndC_len, hM.ly]) (by omega) (by show (2 * (_ + _) + 1000) * 8 ≤ 2 ^ 48; omega) (by omega)) rfl ?_
            rintro _ _ _ ⟨u3, hu3, rfl, rfl, rfl⟩
            refine WL.yd (Yd.assign rfl) rfl ?_
            refine WL.yd (Yd.assign rfl) rfl ?_
            refine WL.nil ?_
            refine WP.blkNormal ?_
            refine WP.thenC ?_
            refine WC.ofFr [(4, _), (3, _), (1, _), (2, _), (5, _), (6, _), (30, _), (31, _)] ⟨rfl, rfl, rfl, rfl, rfl, rfl, rfl, rfl, trivial⟩ ?_
            refine WC.region ?_
            refine WL.yd (Yd.addN (i := s.k) (j := 1) rfl rfl (by omega)) rfl ?_
            refine WL.yd (Yd.move rfl) rfl ?_
            refine WL.nil ?_
            have hM2 := hM.step hk5 hlt (a := (max 0 ((gt s.free (drawV by_ (j + 5 + 8 * s.k + 1) (1 + drawV by_ (j + 4) 4)).toNat + drawV by_ (j + 5 + 8 * s.k + 1 + 1) 8) - drawV by_ (j + 5 + 8 * s.k + 1 + 1 + 1) 50))) (b := (gt s.free (drawV by_ (j + 5 + 8 * s.k + 1) (1 + drawV by_ (j + 4) 4)).toNat + drawV by_ (j + 5 + 8 * s.k + 1 + 1) 8)) (e := ((gt s.free (drawV by_ (j + 5 + 8 * s.k + 1) (1 + drawV by_ (j + 4) 4)).toNat + drawV by_ (j + 5 + 8 * s.k + 1 + 1) 8) + 30 + drawV by_ (j + 5 + 8 * s.k + 1 + 1 + 1 + 1) 3)) (sa := s1) (sb := s2) (by omega) (by omega) (by omega) hs1 hs2
            refine WP.again (⟨s.k + 1, s.ts ++ [⟨s1, ((drawV by_ (j + 5 + 8 * s.k + 1) (1 + drawV by_ (j + 4) 4)).toNat : Int), s2⟩], s.y ++ [((max 0 ((gt s.free (drawV by_ (j + 5 + 8 * s.k + 1) (1 + drawV by_ (j + 4) 4)).toNat + drawV by_ (j + 5 + 8 * s.k + 1 + 1) 8) - drawV by_ (j + 5 + 8 * s.k + 1 + 1 + 1) 50)), (gt s.free (drawV by_ (j + 5 + 8 * s.k + 1) (1 + drawV by_ (j + 4) 4)).toNat + drawV by_ (j + 5 + 8 * s.k + 1 + 1) 8))], s.free.set (drawV by_ (j + 5 + 8 * s.k + 1) (1 + drawV by_ (j + 4) 4)).toNat ((gt s.free (drawV by_ (j + 5 + 8 * s.k + 1) (1 + drawV by_ (j + 4) 4)).toNat + drawV by_ (j + 5 + 8 * s.k + 1 + 1) 8) + 30 + drawV by_ (j + 5 + 8 * s.k + 1 + 1 + 1 + 1) 3), some u1, some u2, some u3⟩ : MSt) ⟨by simp only; omega, hM2, hu1, hu2, hu3⟩ (by simp only; omega) (fun aa ww h => ?_)
            show At _ [(1, pt b1), (2, pt b2), (3, owV (some u2) (s.k + 1)), (4, owV (some u3) (s.k + 1)), (5, .slice (some ⟨b27, 0, none⟩) (1 + drawV by_ (j + 4) 4).toNat (1 + drawV by_ (j + 4) 4).toNat), (6, .func (.func 58) #[] #[pt b1]), (30, it (drawV by_ (j + 5) 6)), (31, nt (s.k + 1))] D1 ((bc, cntO (j + 5 + 8 * (s.k + 1))) :: (b27, .cells (List.toArray ((s.free.set (drawV by_ (j + 5 + 8 * s.k + 1) (1 + drawV by_ (j + 4) 4)).toNat ((gt s.free (drawV by_ (j + 5 + 8 * s.k + 1) (1 + drawV by_ (j + 4) 4)).toNat + drawV by_ (j + 5 + 8 * s.k + 1 + 1) 8) + 30 + drawV by_ (j + 5 + 8 * s.k + 1 + 1 + 1 + 1) 3)).map it ++ [])) 3 (0, 0)) :: (b2, .cells (List.toArray [it (1 + drawV by_ (j + 4) 4), owV (some u1) (s.k + 1), it (drawV by_ (j + 1) 101), it (drawV by_ (j + 2) 101), it (drawV by_ (j + 3) 101)]) 37 (0, 0)) :: owH (some u1) 78 ((s.ts ++ [(⟨s1, ((drawV by_ (j + 5 + 8 * s.k + 1) (1 + drawV by_ (j + 4) 4)).toNat : Int), s2⟩ : Tick)]).flatMap tickC) (owH (some u2) 3 ((s.y ++ [((max 0 ((gt s.free (drawV by_ (j + 5 + 8 * s.k + 1) (1 + drawV by_ (j + 4) 4)).toNat + drawV by_ (j + 5 + 8 * s.k + 1 + 1) 8) - drawV by_ (j + 5 + 8 * s.k + 1 + 1 + 1) 50)), (gt s.free (drawV by_ (j + 5 + 8 * s.k + 1) (1 + drawV by_ (j + 4) 4)).toNat + drawV by_ (j + 5 + 8 * s.k + 1 + 1) 8))]).flatMap fstC) (owH (some u3) 3 ((s.y ++ [((max 0 ((gt s.free (drawV by_ (j + 5 + 8 * s.k + 1) (1 + drawV by_ (j + 4) 4)).toNat + drawV by_ (j + 5 + 8 * s.k + 1 + 1) 8) - drawV by_ (j + 5 + 8 * s.k + 1 + 1 + 1) 50)), (gt s.free (drawV by_ (j + 5 + 8 * s.k + 1) (1 + drawV by_ (j + 4) 4)).toNat + drawV by_ (j + 5 + 8 * s.k + 1 + 1) 8))]).flatMap sndC) []))) aa ww
            rw [tickC_snoc, fstC_snoc, sndC_snoc]
            exact at_fr h ⟨rfl, rfl, rfl, rfl, rfl, rfl, rfl, rfl, trivial⟩
    · skip
      refine WC.know 7 (nt (drawV by_ (j + 5 + 8 * s.k + 1) (1 + drawV by_ (j + 4) 4)).toNat) rfl (congrArg (Value.int .i64) (by omega)) ?_
      refine WC.ofFr [(7, _), (1, _), (2, _), (3, _), (4, _), (5, _), (6, _), (30, _), (31, _)] ⟨rfl, rfl, rfl, rfl, rfl, rfl, rfl, rfl, rfl, trivial⟩ ?_
      refine WC.drawH [] (by kernel_rfl) (fun _ hI => Inv.nil hI) ?_
      refine WH.yd (i := 0) (by kernel_rfl) (fun _ o v c a w _ h => (QuietPanic.then (QuietPanic.blk (QuietPanic.then (QuietPanic.then (QuietPanic.blk (QuietPanic.then QuietPanic.body)))))) c o.dst v a w h) rfl (Yd.move rfl) rfl ?_
      refine WH.yd (i := 1) (by kernel_rfl) (fun _ o v c a w _ h => (QuietPanic.then (QuietPanic.blk (QuietPanic.then (QuietPanic.then (QuietPanic.blk (QuietPanic.then QuietPanic.body)))))) c o.dst v a w h) rfl (Yd.move rfl) rfl ?_
      refine WH.yd (i := 2) (by kernel_rfl) (fun _ o v c a w _ h => (QuietPanic.then (QuietPanic.blk (QuietPanic.then (QuietPanic.then (QuietPanic.blk (QuietPanic.then QuietPanic.body)))))) c o.dst v a w h) rfl (Yd.indexS Try.underlying22 Try.sizeOf3 rfl rfl (by omega) (by omega) (by first | exact rfl)) rfl ?_
      refine WH.yd (i := 4) (by kernel_rfl) (fun _ o v c a w _ h => (QuietPanic.then (QuietPanic.blk (QuietPanic.then (QuietPanic.then (QuietPanic.blk (QuietPanic.then QuietPanic.body)))))) c o.dst v a w h) rfl (Yd.load1 Try.isAgg52 rfl (by first | exact Rd.own (k := 0) rfl rfl | exact Rd.own (k := 1) rfl rfl | exact Rd.own (k := 2) rfl rfl | exact Rd.own (k := 3) rfl rfl | exact Rd.own (k := 4) rfl rfl | exact Rd.own (k := 5) rfl rfl | exact (Rd.imm hf rfl) | exact (rd_dataI (k := 1) rfl hlt))) rfl ?_
      refine WH.two (i := 3) (j := 5) (by kernel_rfl) ?_ ?_
      · refine WHo.yd rfl (Yd.load1 Try.isAgg3 rfl (by first | exact Rd.own (k := 0) rfl rfl | exact Rd.own (k := 1) rfl rfl | exact Rd.own (k := 2) rfl rfl | exact Rd.own (k := 3) rfl rfl | exact Rd.own (k := 4) rfl rfl | exact Rd.own (k := 5) rfl rfl | exact (Rd.imm hf rfl) | exact (rd_dataI (k := 1) rfl hlt))) rfl ?_
        refine WH.one (i := 5) (by kernel_rfl) (WHo.so rfl (SO.altersF (own := _) (hpc := [(bc, cntO (j + 5 + 8 * s.k + 1))]) (S1 := [bc]) rfl (fun _ h => h) (fun _ h => h) (Enters.val Try.call57 rfl rfl) (fun w1 hI => draw_g by_ bc bb _ w1 hB 8 (by omega) (j + 5 + 8 * s.k + 1) (by omega) hI)) rfl ?_)
        rintro _ _ _ ⟨_, _, ⟨rfl, rfl, rfl⟩, rfl⟩
        refine ⟨(fun _ hI => Inv.nil hI), ?_⟩
        refine WH.yd (i := 6) (by kernel_rfl) (fun _ o v c a w _ h => (QuietPanic.then (QuietPanic.blk (QuietPanic.then (QuietPanic.then (QuietPanic.blk (QuietPanic.then QuietPanic.body)))))) c o.dst v a w h) rfl (Yd.add (i := gt s.free (drawV by_ (j + 5 + 8 * s.k + 1) (1 + drawV by_ (j + 4) 4)).toNat) (j := drawV by_ (j + 5 + 8 * s.k + 1 + 1) 8) rfl rfl (wr64 ⟨by omega, by omega⟩)) rfl ?_
        refine WH.yd (i := 7) (by kernel_rfl) (fun _ o v c a w _ h => (QuietPanic.then (QuietPanic.blk (QuietPanic.then (QuietPanic.then (QuietPanic.blk (QuietPanic.then QuietPanic.body)))))) c o.dst v a w h) rfl (Yd.assign rfl) rfl ?_
        refine WH.nil (by kernel_rfl) ?_
        exact WP.join () trivial (fun aa ww h => at_fr h ⟨rfl, rfl, rfl, rfl, rfl, rfl, rfl, rfl, rfl, rfl, trivial⟩)
      · refine WHo.so rfl (SO.altersF (own := _) (hpc := [(bc, cntO (j + 5 + 8 * s.k + 1))]) (S1 := [bc]) rfl (fun _ h => h) (fun _ h => h) (Enters.val Try.call57 rfl rfl) (fun w1 hI => draw_g by_ bc bb _ w1 hB 8 (by omega) (j + 5 + 8 * s.k + 1) (by omega) hI)) rfl ?_
        rintro _ _ _ ⟨_, _, ⟨rfl, rfl, rfl⟩, rfl⟩
        refine ⟨(fun _ hI => Inv.nil hI), ?_⟩
        refine WH.one (i := 3) (by kernel_rfl) (WHo.yd rfl (Yd.load1 Try.isAgg3 rfl (by first | exact Rd.own (k := 0) rfl rfl | exact Rd.own (k := 1) rfl rfl | exact Rd.own (k := 2) rfl rfl | exact Rd.own (k := 3) rfl rfl | exact Rd.own (k := 4) rfl rfl | exact Rd.own (k := 5) rfl rfl | exact (Rd.imm hf rfl) | exact (rd_dataI (k := 1) rfl hlt))) rfl ?_)
        refine WH.yd (i := 6) (by kernel_rfl) (fun _ o v c a w _ h => (QuietPanic.then (QuietPanic.blk (QuietPanic.then (QuietPanic.then (QuietPanic.blk (QuietPanic.then QuietPanic.body)))))) c o.dst v a w h) rfl (Yd.add (i := gt s.free (drawV by_ (j + 5 + 8 * s.k + 1) (1 + drawV by_ (j + 4) 4)).toNat) (j := drawV by_ (j + 5 + 8 * s.k + 1 + 1) 8) rfl rfl (wr64 ⟨by omega, by omega⟩)) rfl ?_
        refine WH.yd (i := 7) (by kernel_rfl) (fun _ o v c a w _ h => (QuietPanic.then (QuietPanic.blk (QuietPanic.then (QuietPanic.then (QuietPanic.blk (QuietPanic.then QuietPanic.body)))))) c o.dst v a w h) rfl (Yd.assign rfl) rfl ?_
        refine WH.nil (by kernel_rfl) ?_
        exact WP.join () trivial (fun aa ww h => at_fr h ⟨rfl, rfl, rfl, rfl, rfl, rfl, rfl, rfl, rfl, rfl, trivial⟩)
  · try simp only [zq1, zq2, zq3, zq4, zq5, zq6, zq7, zq8] at c32
    have hk6 : s.k ≤ 5 := by omega
    refine WC.exit ?_
    refine WP.thenExit ?_
    refine WP.thenExit ?_
    refine WP.blkHit ?_
    refine WP.thenC ?_
    refine WC.seq ?_
    refine WC.freezeOw (f := tickC) (m := 5) tickC_len [_, _, _] _ s.o1 78 s.ts rfl (by rw [hM.lt]; exact ho1) rfl (fun D2 hX2 hS1 => ?_)
    refine WC.freezeOw (f := fstC) (m := 1) fstC_len [_, _, _] _ s.o2 3 s.y rfl (by rw [hM.ly]; exact ho2) rfl (fun D3 hX3 hS2 => ?_)
    refine WC.freezeOw (f := sndC) (m := 1) sndC_len [_, _, _] [] s.o3 3 s.y rfl (by rw [hM.ly]; exact ho3) rfl (fun D4 hX4 hS3 => ?_)
    replace hS1 := (hS1.ext hX3).ext hX4
    replace hS2 := hS2.ext hX4
    refine (?_ : WC Try.prog _ _ D4 [_, _, _] _ _)
    refine WC.ofFr [(2, _), (3, _), (4, _)] ⟨rfl, rfl, rfl, trivial⟩ ?_
    refine WC.region ?_
    refine WL.yd (Yd.loadN Try.isAgg37 Try.sizeOf37 rfl (vs := [_, _, _, _, _]) rfl (by first | exact RdN.own (k := 0) (n := 5) rfl rfl | exact RdN.own (k := 1) (n := 5) rfl rfl | exact RdN.own (k := 2) (n := 5) rfl rfl)) rfl ?_
    refine WL.yd (Yd.move rfl) rfl ?_
    refine WL.yd (Yd.move rfl) rfl ?_
    refine WL.so (SO.store 2 rfl Try.sizeOf37 rfl rfl rfl rfl (Nat.le_of_ble_eq_true rfl) (fun v hv => by simp only [List.mem_cons, List.mem_nil_iff, or_false] at hv; rcases hv with rfl | rfl | rfl | rfl | rfl <;> first | rfl | exact owV_one _ _)) rfl ?_
    rintro _ _ _ ⟨rfl, rfl, rfl⟩
    refine WL.yd (Yd.assign rfl) rfl ?_
    refine WL.yd (Yd.assign rfl) rfl ?_
    refine WL.nil ?_
    refine WP.thenC ?_
    refine WC.ret ?_
    refine WP.ret3 rfl rfl Try.results23 (RV.cellN Try.isAgg37 Try.sizeOf37 rfl (vs := [_, _, _, _, _]) rfl (by first | exact RdN.own (k := 0) (n := 5) rfl rfl | exact RdN.own (k := 1) (n := 5) rfl rfl | exact RdN.own (k := 2) (n := 5) rfl rfl)) (RV.tmp rfl) (RV.tmp rfl) (fun w1 hI => ?_)
    have hlt2 := hM.lt
    refine ⟨_, D4, [(bc, cntO (j + 5 + 8 * s.k))], rfl, ((hX1.trans hX2 (Nat.le_refl _)).trans hX3 (Nat.le_refl _)).trans hX4 (Nat.le_refl _), hI.pick 0 rfl, ⟨⟨(1 + drawV by_ (j + 4) 4), s.ts⟩, drawV by_ (j + 1) 101, drawV by_ (j + 2) 101, drawV by_ (j + 3) 101⟩, s.y, owAt s.o1, owCp s.o1 s.k, owAt s.o2, owCp s.o2 s.k, owAt s.o3, owCp s.o3 s.k, j + 5 + 8 * s.k, ?_, ?_, hM.sol.1, hM.sol.2, ⟨hS1, by show s.ts.length ≤ 1000; omega⟩, ?_, ?_, by omega, rfl⟩
    · show Value.tuple #[.agg #[it (1 + drawV by_ (j + 4) 4), owV s.o1 s.k, it (drawV by_ (j + 1) 101), it (drawV by_ (j + 2) 101), it (drawV by_ (j + 3) 101)], owV s.o2 s.k, owV s.o3 s.k] = Value.tuple #[.agg #[it (1 + drawV by_ (j + 4) 4), .slice (owAt s.o1) s.ts.length (owCp s.o1 s.k), it (drawV by_ (j + 1) 101), it (drawV by_ (j + 2) 101), it (drawV by_ (j + 3) 101)], .slice (owAt s.o2) s.ts.length (owCp s.o2 s.k), .slice (owAt s.o3) s.ts.length (owCp s.o3 s.k)]
      rw [hM.lt, owV_eqP ho1, owV_eqP ho2, owV_eqP ho3]
    · unfold tillB inB
      rw [hM.valid hk6 (by omega)]
      simp only [Bool.true_and, Bool.and_eq_true, decide_eq_true_eq]
      omega
    · show SlL D4 1 (s.y.map fstC) (owAt s.o2) s.ts.length
      rw [hM.ly, ← hM.lt] at hS2; exact hS2
    · show SlL D4 1 (s.y.map sndC) (owAt s.o3) s.ts.length
      rw [hM.ly, ← hM.lt] at hS3; exact hS3

end Go.Proofs.Ytpnbkdlejfmbeaa
