import Derived.Test.YtaiegbjgfdhgaaaGreatDoorXG5
import Derived.Test.YtaiegbjgfdhgaaaGreatDoorXG0
import Derived.Test.YtaiegbjgfdhgaaaGreatDoorXG1
import Derived.Test.YtaiegbjgfdhgaaaGreatDoorXG4
import Derived.Test.YtaiegbjgfdhgaaaGreatDoorXG2
set_option linter.all false
set_option maxRecDepth 100000
set_option maxHeartbeats 4000000
attribute [local irreducible] Go.W.WL Go.W.WLF Go.W.WC Go.W.WCF Go.W.WP Go.W.WA Go.W.WQ Go.W.WH Go.W.WHo Go.W.WCn Go.W.Yd Go.W.Qt Go.W.SO Go.Code.wp Go.Code.wpIn
namespace Go.Proofs.YtaiegbjgfdhgaaaGreatDoor
open Go.W Go.Bk
section
variable {pc : Nat → Int} {first : Nat → Int} {can : Nat} {many : Int} {n : Nat} {x : Nat × Nat} {r : List (Nat × Nat)} {t : SSt}
include pc first can many n x r t
theorem zsD (h : ¬ (pc x.2 = (x.1 : Int) ∧ butN x.2 can = 0)) : savS pc first can many n (x :: r) t = savS pc first can many n r t := by
  rw [savS, if_neg h]
section
variable (h : pc x.2 = (x.1 : Int) ∧ butN x.2 can = 0)
include h
theorem zyi (hr : (savF first can many x.2 n 0 t).1 = true) : savS pc first can many n (x :: r) t = ((savF first can many x.2 n 0 t).2.1, x.2) := by
  rw [savS, if_pos h];generalize savF first can many x.2 n 0 t = q at hr ⊢
  obtain ⟨b, s'⟩ := q;dsimp only at hr; subst hr; rfl
theorem zDw (hr : (savF first can many x.2 n 0 t).1 = false) : savS pc first can many n (x :: r) t = savS pc first can many n r (savF first can many x.2 n 0 t).2 := by
  conv => lhs; rw [savS, if_pos h]
  generalize savF first can many x.2 n 0 t = q at hr ⊢
  obtain ⟨b, s'⟩ := q;dsimp only at hr; subst hr; rfl
end
end
def prR (n i : Nat) : List (Nat × Nat) := ((List.range (n + 1)).drop i).flatMap fun i => (List.range (2 ^ n)).map fun s => (i, s)
def prI (n i s : Nat) : List (Nat × Nat) := ((List.range (2 ^ n)).drop s).map fun s => (i, s)
theorem ztQ {n i : Nat} (h : i < n + 1) : prR n i = prI n i 0 ++ prR n (i + 1) := by unfold prR prI; rw [w3 h, List.flatMap_cons, List.drop_zero]
theorem zvY (n : Nat) : prR n (n + 1) = [] := by unfold prR; rw [zmJ]; rfl
theorem zo9 {n i s : Nat} (h : s < 2 ^ n) : prI n i s = (i, s) :: prI n i (s + 1) := by unfold prI; rw [w3 h]; rfl
theorem zvX (n i : Nat) : prI n i (2 ^ n) = [] := by unfold prI; rw [zmJ]; rfl
def fsG (s : Surf) (i : Nat) : Nat → Int := fun j => if j < i then fstI s j else 0
section
variable (s : Surf)
include s
theorem ztn : fsG s 0 = fun _ => 0 := by funext j; exact if_neg (Nat.not_lt_zero j)
theorem ztm (i : Nat) : (fun j => if j = i then fstI s i else fsG s i j) = fsG s (i + 1) := by
  funext j; unfold fsG;by_cases e : j = i
  · subst e; simp
  by_cases e2 : j < i
  · simp [e, e2, show j < i + 1 by omega]
  simp [e, e2, show ¬ j < i + 1 by omega]
theorem zvl : fsG s s.huts.length = fstI s := by
  funext j; unfold fsG;split
  · rfl
  rename_i h; unfold fstI; rw [if_neg h]
theorem zvc (x : Hut) (h : s.water.length ≤ 8) : firI s x ≤ 8 := by
  unfold firI;split
  · rename_i k e
    have := List.mem_range.1 (List.mem_of_find?_eq_some e);omega
  decide
theorem zvm (h : s.water.length ≤ 8) (i : Nat) : fstI s i ≤ 8 := by
  unfold fstI;split
  · exact zvc s _ h
  decide
end
theorem zwz (n : Nat) : xI [it 0] (n * 1) = (List.replicate n (0 : Int)).map it := by
  rw [Nat.mul_one]
  induction n with
  | zero => rfl
  | succ n ih => rw [xI, ih, List.replicate_succ', List.map_append]; simp [Nat.mod_one]
set_option maxRecDepth 100000 in
set_option maxHeartbeats 4000000 in
theorem zw7 (pc : Nat → Int) (hpc : zmW pc) (s : Surf) (m : znC) (D : Imm) (hR : znP D s m) (hok : zmq s) (hT : LibT D) (many : Int) (hm : inB many 0 5 = true) (w : World) (hH : Holds D w) : y6 Tryz.prog 26 [zu5 s m, it many] w D (fun v D' => ∃ a n c, v = .tuple #[.slice a n c, nt (savP pc s many).2, it 0] ∧ SlL D' 1 ((savP pc s many).1.map itC) a n ∧ n ≤ 5) := by
  unfold y6;have nh5 := hok.nhuts;have nw8 := hok.nwater;have hv : zsB s = true := zpJ.2 hok;have hmh : m.h.n = s.huts.length := hR.h.len';have hcan : canN s < 2 ^ 60 := Nat.lt_of_lt_of_le (znu _ _) (Nat.pow_le_pow_right (n := 2) (by decide) (by omega));have hp5 : 2 ^ s.huts.length ≤ 2 ^ 5 := Nat.pow_le_pow_right (by decide) nh5;refine enD Tryz.func26 rfl Tryz.ntmps26 (Inv.start hH) (g [[1],[1,0,1]] ?_);refine WL.so (SO.box rfl rfl) rfl (zw fun b2 hb2 => ?_);refine WL.so (SO.box rfl rfl) rfl (zw fun b3 hb3 => ?_);refine g [[2]] ?_;refine WL.so (SO.alloc ZvF.h rfl) rfl (zw fun b6 hb6 => ?_);refine g [[3],[1,6,5,4,3,2]] ?_;refine WL.deferA rfl (g [[3],[0,6,5,4,3,2],[3003],[2]] ?_);refine WQ.q rfl (Qt.callP CaF.h rfl (fun w hI => zn2 _ _ _ _)) rfl (WQ.know 20 (.bool true) rfl (congrArg Value.bool hm) (g [[1]] ?_));refine WL.so (SO.newsF (Enters.func CaF.h rfl) (fun w1 hI => zr3 s m D hR w1 hI.imm hok)) rfl ?_;rintro _ D1 _ ⟨_, hX1, ⟨qb, mb, rfl, hq, rfl⟩, rfl⟩;refine g [[4],[1,7,6,5,4,3,2]] ?_;refine WL.so (SO.alloc ZvF.h rfl) rfl (zw fun b8 hb8 => ?_);refine g [[3],[1,8,7,6,5,4,3,2]] ?_;refine WL.so (SO.alloc ZvF.h rfl) rfl (zw fun b9 hb9 => ?_);refine WL.so (SO.store 0 rfl SzF.h rfl rfl rfl rfl (zqb rfl) (za rfl)) rfl ?_;rintro _ _ _ ⟨rfl, rfl, e2_⟩;obtain rfl := e2_.symm;refine g [[4],[4,9,8,7,6,5,4,3,2]] ?_;skip;refine g [[4]] ?_;refine WC.know 24 (nt s.huts.length) rfl (congrArg (fun n : Nat => nt n) hmh) ?_;refine WC.loop (fun y : Nat × Hp => [(2, pt b2), (3, pt b3), (6, pt b6), (7, pt qb), (8, pt b8), (9, pt b9), (23, slV m.h), (24, nt s.huts.length), (25, nt y.1)]) (fun y => [(b9, .cells (List.toArray [nt (orF (fun i => decide (0 ≤ fstI s i)) y.1)]) 3 (0, 0)), (b8, .cells (List.toArray (fiC (fsG s y.1))) 170 (0, 0)), (b6, .cells (List.toArray [it 0]) 28 (0, 0)), (b3, .cells (List.toArray [it many]) 3 (0, 0)), (b2, .cells (List.toArray [it s.rows, it s.step, slV m.w, slV m.v, slV m.h]) 49 (0, 0))] ++ y.2) (fun _ => D1) (fun y => y.1 ≤ s.huts.length ∧ MapS s mb y.2) (fun y => s.huts.length - y.1) (0, [(mb, .map #[] 0)]) ⟨Nat.zero_le _, ztF s mb⟩ (fun a w ha => by dsimp only; rw [ztn]; exact v6 ha ⟨rfl, rfl, rfl, rfl, rfl, rfl, rfl, rfl, rfl, trivial⟩ ((((List.perm_middle (l₁ := [_, _, _]) (l₂ := [])).symm).cons _).cons _)) ?_;rintro ⟨i, hM⟩ ⟨hi, hMM⟩;dsimp only at hi hMM;obtain ⟨es, cl, F, rfl, hMG, hKF⟩ := hMM;refine g [[1],[5,2,3,6,7,8,9,23,24,25]] ?_;refine WC.cond rfl (fun c26 => ?_) (fun c26 => ?_)
  · try simp only [zq] at c26
    have hin : i < s.huts.length := by omega
    have hfi : fstI s i = firI s (gt s.huts i) := by unfold fstI; rw [if_pos hin]
    refine g [[5],[2,2,3,6,7,8,9,23,24,25]] ?_;refine WL.yd (Yd.indexS UnF.h SzF.h rfl rfl (by (try dsimp only); omega) (by (try dsimp only); omega) (hR.h.addr i (by omega))) rfl ?_;refine WL.yd (Yd.lV [_, _, _] rfl (((hR.ext hX1).h.at i (by omega)).rdn 0 3 rfl)) rfl ?_;refine WL.so (SO.alloc ZvF.h rfl) rfl (zw fun b11 hb11 => ?_);refine g [[1]] ?_;refine WL.so (SO.store 0 rfl SzF.h rfl rfl rfl rfl (zqb rfl) (za rfl)) rfl ?_;rintro _ _ _ ⟨rfl, rfl, e2_⟩;obtain rfl := e2_.symm;refine g [[3],[4,10,11,2,3,6,7,8,9,23,24,25]] ?_;refine WL.so (SO.altersNP (own := [_, _, _, _, _, _]) (hpc := [(mb, .map es cl)]) (S1 := [mb]) (List.Perm.refl _) (fun _ h => h) (fun _ h => h) (Enters.func CaF.h rfl) (fun w1 hI => ztd s m qb mb D1 (hR.ext hX1) hok hq (hT.ext hX1) (gt s.huts i) (zxF hok hin) w1 _ ⟨es, cl, F, rfl, hMG, hKF⟩ hI)) rfl ?_;rintro _ D2 _ ⟨hM2, hX2, ⟨rfl, hMM2⟩, rfl⟩;refine WL.yd (Yd.indexA UnF.h SzF.h rfl rfl (by (try dsimp only); omega) (by (try dsimp only); omega)) rfl ?_;refine WL.so (SO.store 2 rfl SzF.h rfl rfl rfl rfl (by show 0 + i * 1 + 1 ≤ 5; omega) (za rfl)) rfl ?_;rintro _ _ _ ⟨rfl, rfl, e2_⟩;obtain rfl := e2_.symm;refine g [[3],[1,10,2,3,6,7,8,9,23,24,25]] ?_;rw [show splice (fiC (fsG s i)) (0 + (i : Int).toNat * 1) [it (firI s (gt s.huts i))] = fiC (fsG s (i + 1)) from by rw [← hfi, ← ztm]; exact zxt _ (by omega) _];refine g [[1]] ?_;refine WL.yd (Yd.indexA UnF.h SzF.h rfl rfl (by (try dsimp only); omega) (by (try dsimp only); omega)) rfl ?_;refine WL.yd (Yd.l1 rfl (Rd.own (k := 2) rfl (zxs _ (by omega)))) rfl (WL.know 37 (it (fstI s i)) rfl (congrArg it (if_pos (by omega))) (g [[3]] ?_));refine WC.cond rfl (fun c38 => ?_) (fun c38 => ?_)
    · try simp only [zq] at c38
      refine g [[0,10,2,3,6,7,8,9,23,24,25]] ?_;refine WC.drawH _ zk (fun _ hI => hI.drop 99) (g [[1001]] ?_);refine WH.yd (i := 2) zk zX rfl (Yd.shlN rfl rfl (by omega)) rfl ?_;refine WH.one (i := 0) zk (WHo.yd rfl (Yd.l1 rfl (Rd.own (k := 1) rfl rfl)) rfl ?_);refine WH.yd (i := 3) zk zX rfl (Yd.orG (.inr rfl) (lt63 (znu _ _) (by omega)) (zna (by omega)) rfl rfl) rfl ?_;refine WH.one (i := 4) zk (WHo.so rfl (SO.store 1 rfl SzF.h rfl rfl rfl rfl (zqb rfl) (za rfl)) rfl ?_);rintro _ _ _ ⟨rfl, rfl, rfl⟩;refine ⟨(fun _ hI => hI.drop 99), ?_⟩;refine WH.nil zk (g [[2],[1,2,3,6,7,8,9,23,24,25]] ?_);refine WL.yd (Yd.add rfl rfl (wr64 ⟨by (try dsimp only); omega, by (try dsimp only); omega⟩)) rfl (g [[2]] ?_);refine WP.again (i + 1, hM2) ⟨hin, hMM2⟩ (by show s.huts.length - (i + 1) < s.huts.length - i; omega) (fun a w ha => ?_);dsimp only;rw [zn6 (f := (fun i => decide (0 ≤ fstI s i))) (decide_eq_true (by assumption))];exact yM 1 ha ⟨rfl, rfl, rfl, rfl, rfl, rfl, rfl, rfl, rfl, trivial⟩ (List.Perm.refl _) hX2.old
    try simp only [zq] at c38
    refine g [[3],[1,2,3,6,7,8,9,23,24,25]] ?_;refine WL.yd (Yd.add rfl rfl (wr64 ⟨by (try dsimp only); omega, by (try dsimp only); omega⟩)) rfl (g [[2]] ?_);refine WP.again (i + 1, hM2) ⟨hin, hMM2⟩ (by show s.huts.length - (i + 1) < s.huts.length - i; omega) (fun a w ha => ?_);dsimp only;rw [zpA (f := (fun i => decide (0 ≤ fstI s i))) (decide_eq_false (by omega))];exact yM 1 ha ⟨rfl, rfl, rfl, rfl, rfl, rfl, rfl, rfl, rfl, trivial⟩ (List.Perm.refl _) hX2.old
  try simp only [zq] at c26
  obtain rfl : i = s.huts.length := by omega
  refine g [[6]] ?_;rw [zvl];refine g [[4,2,3,6,8,9]] ?_;refine WL.know 46 (nt s.huts.length) rfl (congrArg (fun n : Nat => nt n) hmh) ?_;refine WL.so (SO.makeSlice Tryz.underlying31 Tryz.sizeOf3 Tryz.typeInfo3 Tryz.zeroValue3 rfl rfl rfl (by omega) (by show (8 : Int) * _ ≤ _; omega)) rfl ?_;rintro _ _ _ ⟨b47, hb47, rfl, rfl, rfl⟩;refine WL.so (SO.alloc ZvF.h rfl) rfl (zw fun b12 hb12 => ?_);refine WL.so (SO.store 0 rfl SzF.h rfl rfl rfl rfl (zqb rfl) (za rfl)) rfl ?_;rintro _ _ _ ⟨rfl, rfl, e2_⟩;obtain rfl := e2_.symm;refine g [[3],[1,12,3,6,8,9]] ?_;refine WL.yd (Yd.buildA (zs := [.int .i64 0, .int .i64 0, .int .i64 0, .int .i64 0, .int .i64 0, .int .i64 0, .int .i64 0, .int .i64 0]) ⟨_, ZvF.h, rfl⟩ UnF.h SzF.h rfl (cs := [_, _, _, _, _, _, _, _]) rfl) rfl ?_;refine WL.so (SO.alloc ZvF.h rfl) rfl (zw fun b13 hb13 => ?_);refine WL.so (SO.store 0 rfl SzF.h rfl rfl rfl rfl (zqb rfl) (za rfl)) rfl ?_;rintro _ _ _ ⟨rfl, rfl, e2_⟩;obtain rfl := e2_.symm;refine g [[3],[1,13,12,3,6,8,9]] ?_;refine WL.so (SO.alloc ZvF.h rfl) rfl (zw fun b14 hb14 => ?_);refine g [[3],[2,14,13,12,3,6,8,9]] ?_;refine WL.so (SO.store 0 rfl SzF.h rfl rfl rfl rfl (zqb rfl) (za rfl)) rfl ?_;rintro _ _ _ ⟨rfl, rfl, e2_⟩;obtain rfl := e2_.symm;refine g [[4]] ?_;refine WC.freezeN 0 b14 (.cells (List.toArray [.func (.func 89) #[] #[pt b12, pt b9, pt b14, pt b8, pt b13, pt b3]]) 108 (0, 0)) rfl rfl hb14 (fun D14 hX14 h14 => ?_);refine WC.freezeN 1 b12 (.cells (List.toArray [.slice (some ⟨b47, 0, none⟩) s.huts.length s.huts.length]) 31 (0, 0)) rfl rfl hb12 (fun D12 hX12 h12 => ?_);refine WC.freezeN 2 b9 (.cells (List.toArray [nt (canN s)]) 3 (0, 0)) rfl rfl hb9 (fun D9a hX9 h9 => ?_);refine WC.freezeN 2 b8 (.cells (List.toArray (fiC (fstI s))) 170 (0, 0)) rfl rfl hb8 (fun D8 hX8 h8 => ?_);refine WC.freezeN 3 b3 (.cells (List.toArray [it many]) 3 (0, 0)) rfl rfl hb3 (fun D9 hX3 h3 => ?_);replace h8 := hX3.old _ _ h8;replace h9 := hX3.old _ _ (hX8.old _ _ h9);replace h12 := hX3.old _ _ (hX8.old _ _ (hX9.old _ _ h12));replace h14 := hX3.old _ _ (hX8.old _ _ (hX9.old _ _ (hX12.old _ _ h14)));have hE : SEnv D9 s.huts.length (fstI s) (canN s) many b47 b12 b9 b14 b8 b13 b3 := ⟨h12, h9, h14, h8, h3⟩;have hXX := ((((hX1.trans hX14 (Nat.le_refl _)).trans hX12 (Nat.le_refl _)).trans hX9 (Nat.le_refl _)).trans hX8 (Nat.le_refl _)).trans hX3 (Nat.le_refl _);refine WC.hpPerm _ (List.Perm.swap _ _ _) (g [[3,14,12,6,9]] ?_);refine WL.yd (Yd.addN (j := 1) rfl rfl (by omega)) rfl (g [[4]] ?_);refine WC.loop (fun y : Nat × SSt => [(6, pt b6), (9, pt b9), (12, pt b12), (14, pt b14), (52, nt (s.huts.length + 1)), (53, nt y.1)]) (fun y => SavH b47 b13 y.2 ++ [(b6, .cells (List.toArray [it 0]) 28 (0, 0))]) (fun _ => D9) (fun y => y.1 ≤ s.huts.length + 1 ∧ savS pc (fstI s) (canN s) many s.huts.length (prR s.huts.length 0) (List.replicate s.huts.length (0 : Int), List.replicate 8 (0 : Int)) = savS pc (fstI s) (canN s) many s.huts.length (prR s.huts.length y.1) y.2 ∧ y.2.1.length = s.huts.length ∧ y.2.2.length = 8) (fun y => s.huts.length + 1 - y.1) (0, (List.replicate s.huts.length (0 : Int), List.replicate 8 (0 : Int))) ⟨Nat.zero_le _, rfl, List.length_replicate, List.length_replicate⟩ (fun a w ha => by dsimp only [SavH, lsO, fuO]; rw [← zwz]; exact yi ha ⟨rfl, rfl, rfl, rfl, rfl, rfl, trivial⟩ zU1 zU2) ?_;rintro ⟨i, t⟩ ⟨hi, hres, ht1, ht2⟩;dsimp only at hi hres ht1 ht2;refine g [[1],[5,6,9,12,14,52,53]] ?_;refine WC.cond rfl (fun c54 => ?_) (fun c54 => ?_)
  · try simp only [zq] at c54
    have hi2 : i < s.huts.length + 1 := by omega
    refine g [[5],[6,6,9,12,14,52,53],[3,15,6,9,12,14,52,53]] ?_;refine WL.yd (Yd.shlN rfl rfl (by omega)) rfl (g [[4]] ?_);rw [ztQ hi2] at hres;refine WC.loop (fun y : Nat × SSt => [(6, pt b6), (9, pt b9), (12, pt b12), (14, pt b14), (15, nt i), (52, nt (s.huts.length + 1)), (53, nt i), (58, nt (2 ^ s.huts.length)), (59, nt y.1)]) (fun y => SavH b47 b13 y.2 ++ [(b6, .cells (List.toArray [it 0]) 28 (0, 0))]) (fun _ => D9) (fun y => y.1 ≤ 2 ^ s.huts.length ∧ savS pc (fstI s) (canN s) many s.huts.length (prR s.huts.length 0) (List.replicate s.huts.length (0 : Int), List.replicate 8 (0 : Int)) = savS pc (fstI s) (canN s) many s.huts.length (prI s.huts.length i y.1 ++ prR s.huts.length (i + 1)) y.2 ∧ y.2.1.length = s.huts.length ∧ y.2.2.length = 8) (fun y => 2 ^ s.huts.length - y.1) (0, t) ⟨Nat.zero_le _, hres, ht1, ht2⟩ (fun a w ha => y4 ha ⟨rfl, rfl, rfl, rfl, rfl, rfl, rfl, rfl, rfl, trivial⟩) ?_;clear hres ht1 ht2;rintro ⟨k, t⟩ ⟨hk, hres, ht1, ht2⟩;dsimp only at hk hres ht1 ht2;refine g [[1],[5,6,9,12,14,15,52,53,58,59]] ?_;refine WC.cond rfl (fun c60 => ?_) (fun c60 => ?_)
    · try simp only [zq] at c60
      have hk2 : k < 2 ^ s.huts.length := by omega
      refine g [[5],[7,6,9,12,14,15,52,53,58,59],[2,16,6,9,12,14,15,52,53,58,59]] ?_;refine WL.yd (Yd.convG (.inl rfl) UnF.h UnF.h rfl (by omega)) rfl (WL.so (SO.callP CaF.h rfl (fun w hI => zux pc hpc k _)) rfl ?_);rintro _ _ _ ⟨rfl, rfl, e2_⟩;obtain rfl := e2_.symm;refine g [[3]] ?_;refine WL.part 67 rfl (fun g67 => ?_) (fun g67 => ?_)
      · try simp only [zq] at g67
        refine g [[18],[1,6,9,12,14,15,52,53,58,59]] ?_;refine WL.yd (Yd.add rfl rfl (wr64 ⟨by (try dsimp only); omega, by (try dsimp only); omega⟩)) rfl (g [[2]] ?_);exact WP.again (k + 1, t) ⟨hk2, by rw [hres, zo9 hk2, List.cons_append, zsD (fun h => by have h1 := h.1; have h2 := h.2; simp_all)], ht1, ht2⟩ (by show 2 ^ s.huts.length - (k + 1) < 2 ^ s.huts.length - k; omega) (fun a w ha => y4 ha ⟨rfl, rfl, rfl, rfl, rfl, rfl, rfl, rfl, rfl, trivial⟩)
      try simp only [zq] at g67
      refine g [[2]] ?_;refine WL.ydg rfl (Yd.butG (.inr rfl) (by omega) (lt63 hcan (by omega)) rfl rfl) rfl (g [[3]] ?_);refine WL.part 73 rfl (fun g73 => ?_) (fun g73 => ?_)
      · try simp only [zq] at g73
        refine g [[12],[1,6,9,12,14,15,52,53,58,59]] ?_;refine WL.yd (Yd.add rfl rfl (wr64 ⟨by (try dsimp only); omega, by (try dsimp only); omega⟩)) rfl (g [[2]] ?_);exact WP.again (k + 1, t) ⟨hk2, by rw [hres, zo9 hk2, List.cons_append, zsD (fun h => by have h1 := h.1; have h2 := h.2; simp_all)], ht1, ht2⟩ (by show 2 ^ s.huts.length - (k + 1) < 2 ^ s.huts.length - k; omega) (fun a w ha => y4 ha ⟨rfl, rfl, rfl, rfl, rfl, rfl, rfl, rfl, rfl, trivial⟩)
      try simp only [zq] at g73
      have hyes : pc k = (i : Int) ∧ butN k (canN s) = 0 := ⟨by simp_all, by simp_all⟩;refine g [[2]] ?_;refine WL.sog rfl (SO.altersNP (own := [_]) (hpc := SavH b47 b13 t) (S1 := [b47, b13]) (List.perm_append_comm (l₁ := [_, _]) (l₂ := [_])) (fun _ h => h) (fun _ h => h) (Enters.val CaF.h rfl rfl) (fun w1 hI => zuF s.huts.length nh5 (fstI s) (zvm s nw8) (canN s) hcan many k (by omega) b47 b12 b9 b14 b8 b13 b3 s.huts.length 0 t D9 w1 (by omega) ht1 ht2 hE hI)) rfl ?_;rintro _ _ _ ⟨hp3, _, ⟨rfl, rfl, hr1, hr2, rfl⟩, rfl⟩;refine g [[4]] ?_;refine WC.cond rfl (fun c78 => ?_) (fun c78 => ?_)
      · try simp only [zq] at c78
        refine g [[4],[1,6,9,12,14,15,52,53,58,59]] ?_;refine WL.yd (Yd.add rfl rfl (wr64 ⟨by (try dsimp only); omega, by (try dsimp only); omega⟩)) rfl (g [[2]] ?_);exact WP.again (k + 1, (savF (fstI s) (canN s) many k s.huts.length 0 t).2) ⟨hk2, by rw [hres, zo9 hk2, List.cons_append, zDw hyes (by simp_all)], hr1, hr2⟩ (by show 2 ^ s.huts.length - (k + 1) < 2 ^ s.huts.length - k; omega) (fun a w ha => v6 ha ⟨rfl, rfl, rfl, rfl, rfl, rfl, rfl, rfl, rfl, trivial⟩ (List.perm_append_comm (l₁ := [_]) (l₂ := [_, _])))
      try simp only [zq] at c78
      refine g [[3],[3,16,6,9,12,14,15,52,53,58,59]] ?_;refine WL.so (SO.makeSlice Tryz.underlying31 Tryz.sizeOf3 Tryz.typeInfo3 Tryz.zeroValue3 rfl rfl rfl (by omega) (by show (8 : Int) * _ ≤ _; omega)) rfl ?_;rintro _ _ _ ⟨b81, hb81, rfl, rfl, rfl⟩;refine g [[4],[3,17,16,6,9,12,14,15,52,53,58,59]] ?_;refine WL.so (SO.copyMin (size := 1) (ys := (savF (fstI s) (canN s) many k s.huts.length 0 t).2.1.map it) rfl Tryz.underlying31 Tryz.sizeOf3 rfl rfl (Nat.le_refl _) (k := 0) rfl (by rw [List.length_map, hr1]; omega) (RdN.own (k := 2) (n := s.huts.length) (cs := (savF (fstI s) (canN s) many k s.huts.length 0 t).2.1.map it) rfl (by rw [slc, List.drop_zero, List.take_of_length_le (by rw [List.length_map, hr1]; omega)])) (by intro v hv2; obtain ⟨z, _, rfl⟩ := List.mem_map.1 hv2; rfl) (by rw [yz, List.length_map, hr1]; omega)) rfl ?_;rintro _ _ _ ⟨rfl, rfl⟩
      have hsp : splice (xI [it 0] (s.huts.length * 1)) 0 ((savF (fstI s) (canN s) many k s.huts.length 0 t).2.1.map it) = (savF (fstI s) (canN s) many k s.huts.length 0 t).2.1.flatMap itC ++ [] := by
        rw [List.append_nil, zrJ]; unfold splice;rw [List.take_zero, List.nil_append, List.drop_of_length_le (by rw [yz, List.length_map, hr1]; omega), List.append_nil]
      refine g [[3]] ?_;rw [hsp];refine WC.freezeN 0 b81 (.cells (((savF (fstI s) (canN s) many k s.huts.length 0 t).2.1.flatMap itC ++ []).toArray) 3 (0, 0)) rfl rfl hb81 (fun DZ hXZ h81 => ?_);have hO : (savP pc s many) = ((savF (fstI s) (canN s) many k s.huts.length 0 t).2.1, k) := by show savS pc (fstI s) (canN s) many s.huts.length (prR s.huts.length 0) (List.replicate s.huts.length (0 : Int), List.replicate 8 (0 : Int)) = _; rw [hres, zo9 hk2, List.cons_append, zyi hyes (by simp_all)]
      have hSS : SlL DZ 1 ((savF (fstI s) (canN s) many k s.huts.length 0 t).2.1.map itC) (some ⟨b81, 0, none⟩) (savF (fstI s) (canN s) many k s.huts.length 0 t).2.1.length := SlL.ofBlock (rest := []) zoV h81;rw [hr1] at hSS;refine g [[5,17,16,6,9,12,14,15,52,53,58,59]] ?_;refine WL.so (SO.store 0 rfl SzF.h rfl rfl rfl rfl (zqb rfl) (za rfl)) rfl ?_;rintro _ _ _ ⟨rfl, rfl, e2_⟩;obtain rfl := e2_.symm;refine g [[12]] ?_;refine WP.endDA [_, _, _] [_, _, _] rfl rfl CaF.h (fun w hI => zo1 b6 w) rfl zV (fun w1 hI => ⟨_, _, rfl, hI.keep, hI.imm, hXX.trans hXZ (Nat.le_refl _), _, _, _, by rw [hO]; rfl, by rw [hO]; exact hSS, nh5⟩)
    try simp only [zq] at c60
    obtain rfl : k = 2 ^ s.huts.length := by omega
    refine g [[6],[1,6,9,12,14,52,53]] ?_;refine WL.yd (Yd.add rfl rfl (wr64 ⟨by (try dsimp only); omega, by (try dsimp only); omega⟩)) rfl (g [[2]] ?_);exact WP.again (i + 1, t) ⟨hi2, by rw [hres, zvX]; rfl, ht1, ht2⟩ (by show s.huts.length + 1 - (i + 1) < s.huts.length + 1 - i; omega) (fun a w ha => y4 ha ⟨rfl, rfl, rfl, rfl, rfl, rfl, trivial⟩)
  try simp only [zq] at c54
  obtain rfl : i = s.huts.length + 1 := by omega
  rw [zvY] at hres;have hO : (savP pc s many) = ([], 0) := hres;refine g [[6],[3,6]] ?_;refine WL.so (SO.store 2 rfl SzF.h rfl rfl rfl rfl (zqb rfl) (za rfl)) rfl ?_;rintro _ _ _ ⟨rfl, rfl, e2_⟩;obtain rfl := e2_.symm;refine g [[3]] ?_;refine WP.endDA [_, _, _] [_, _, _] rfl rfl CaF.h (fun w hI => zo1 b6 w) rfl zV (fun w1 hI => ⟨_, _, rfl, hI.keep, hI.imm, hXX, none, 0, 0, by rw [hO]; rfl, by rw [hO]; exact SlL.nil _ _, Nat.zero_le _⟩)
theorem zyS : zj Tryz.prog 329 [.bool false, .int .i64 0] [(0, 1), (1, 1)] := ⟨⟨_, Tryz.zeroValue329, rfl⟩, _, Tryz.underlying329, fun w => by simp [Tryz.sizeOf3, Tryz.sizeOf4]⟩
abbrev zwZ := SaF.mk zyS
attribute [instance] zwZ
abbrev polV (p : Pole) : Value := .agg #[.bool p.up, it p.calm]
abbrev stpV (x : Stp) : Value := .agg #[.bool x.to.up, it x.to.calm, .bool x.up, nt x.kind]
abbrev zzd (h : zqS) : Value := .agg #[it h.wind.lo, it h.wind.hi, it h.thunder]
structure zqT (f : Flag) (p : Pole) : Prop where
  c : 0 ≤ p.calm ∧ p.calm < f.quiet
theorem zyn {i : Int} (h : -100000 ≤ i ∧ i ≤ 100000) : wrI i = i := wr64 (by omega)
theorem zxY {f : Flag} (hf : K5 f) {p : Pole} (hp : zqT f p) (k : Nat) : zqT f (polF p k f.quiet).1 := by
  have hq := hf.quiet;have hc := hp.c;have hw : wrI (p.calm + 1) = p.calm + 1 := zyn (by omega);unfold polF;split
  · exact ⟨by show (0 : Int) ≤ 0 ∧ (0 : Int) < f.quiet; omega⟩
  split
  · exact ⟨by show (0 : Int) ≤ 0 ∧ (0 : Int) < f.quiet; omega⟩
  split
  · exact ⟨by show (0 : Int) ≤ 0 ∧ (0 : Int) < f.quiet; omega⟩
  rename_i h
  rw [hw] at h;exact ⟨by show 0 ≤ wrI (p.calm + 1) ∧ wrI (p.calm + 1) < f.quiet; rw [hw]; omega⟩
theorem zxz (s n : Nat) (hn : n ≤ 60) (w : World) : z8 Tryz.prog 256 [nt s, nt n] w (.bool (hasN s n)) := by
  unfold z8;refine en Tryz.func256 rfl Tryz.ntmps256 zI (g [[1],[5,0,1],[3,4,0,1]] ?_);refine WL.yd (Yd.shrG (.inr rfl) (by omega) rfl rfl) rfl (WL.yd (Yd.and1N rfl rfl) rfl (g [[5]] ?_));refine WP.ret1 rfl rfl rfl (RV.tmp rfl) (fun w hI => ⟨zb (zqo s n), hI.keep⟩)
theorem zoD (p : Pole) (k : Nat) (quiet : Int) (w : World) : z8 Tryz.prog 257 [polV p, nt k, it quiet] w (.tuple #[polV (polF p k quiet).1, .bool (polF p k quiet).2]) := by
  unfold z8;refine en Tryz.func257 rfl Tryz.ntmps257 zI (g [[1],[1,0,1,2]] ?_);refine WL.so (SO.box rfl rfl) rfl (zw fun b3 hb3 => ?_);refine WL.so (SO.alloc ZvF.h rfl) rfl (zw fun b6 hb6 => ?_);refine g [[5],[5,7,6,3,1,2]] ?_;refine WC.cond rfl (fun c9 => ?_) (fun c9 => ?_)
  · try simp only [zq] at c9
    refine g [[1],[8,7,6,3,1,2]] ?_;refine WP.ret2 rfl rfl rfl (RV.cellN AgF.h SzF.h rfl (vs := [_, _]) rfl (RdN.own (k := 0) (n := 2) rfl rfl)) (RV.tmp rfl) (fun w hI => ⟨congrArg Ending.returned (by rw [show polF p k quiet = (⟨true, 0⟩, true) from if_pos (by omega)] <;> rfl), hI.keep⟩)
  try simp only [zq] at c9
  refine g [[4],[5,7,6,3,1,2]] ?_;refine WL.part 14 rfl (fun g14 => ?_) (fun g14 => ?_)
  · try simp only [zq] at g14
    refine g [[7],[0,7,6,3,2]] ?_;refine WC.drawO [_] (pz [1,3,5,7,9,10,13]) zk zk zX (fun _ hI => hI.tail) (g [[5]] ?_);refine WA.so rfl (SO.store 0 rfl SzF.h rfl rfl rfl rfl (zqb rfl) (za rfl)) rfl ?_;rintro _ _ _ ⟨rfl, rfl, rfl⟩;refine ⟨fun _ hI => hI.tail, ?_⟩;refine g [[5]] ?_;refine WP.ret2 rfl rfl rfl (RV.cellN AgF.h SzF.h rfl (vs := [_, _]) rfl (RdN.own (k := 0) (n := 2) rfl rfl)) (RV.tmp rfl) (fun w hI => ⟨congrArg Ending.returned (by rw [show polF p k quiet = (⟨p.up, 0⟩, p.up) from by rw [polF, if_neg (by omega), if_pos (by first | (left; simp_all; done) | (right; omega))]] <;> rfl), hI.keep⟩)
  try simp only [zq] at g14
  refine g [[5]] ?_;refine WC.cond rfl (fun c17 => ?_) (fun c17 => ?_)
  · try simp only [zq] at c17
    refine g [[1],[0,7,6,3,2]] ?_;refine WC.drawO [_] (pz [1,3,5,7,9,10,13]) zk zk zX (fun _ hI => hI.tail) (g [[5]] ?_);refine WA.so rfl (SO.store 0 rfl SzF.h rfl rfl rfl rfl (zqb rfl) (za rfl)) rfl ?_;rintro _ _ _ ⟨rfl, rfl, rfl⟩;refine ⟨fun _ hI => hI.tail, ?_⟩;refine g [[5]] ?_;refine WP.ret2 rfl rfl rfl (RV.cellN AgF.h SzF.h rfl (vs := [_, _]) rfl (RdN.own (k := 0) (n := 2) rfl rfl)) (RV.tmp rfl) (fun w hI => ⟨congrArg Ending.returned (by rw [show polF p k quiet = (⟨p.up, 0⟩, p.up) from by rw [polF, if_neg (by omega), if_pos (by first | (left; simp_all; done) | (right; omega))]] <;> rfl), hI.keep⟩)
  try simp only [zq] at c17
  refine g [[4],[3,7,6,3,2]] ?_;refine WL.yd (Yd.addW rfl rfl) rfl (g [[5],[7,7,6,3,2]] ?_);refine WC.cond rfl (fun c30 => ?_) (fun c30 => ?_)
  · try simp only [zq] at c30
    refine g [[1],[8,7,6,3]] ?_;refine WP.ret2 rfl rfl rfl (RV.cellN AgF.h SzF.h rfl (vs := [_, _]) rfl (RdN.own (k := 0) (n := 2) rfl rfl)) (RV.tmp rfl) (fun w hI => ⟨congrArg Ending.returned (by rw [show polF p k quiet = (⟨false, 0⟩, true) from by rw [polF, if_neg (by omega), if_neg (by rintro (h | h); (rw [g14] at h; cases h); omega), if_pos (show wrI (p.calm + 1) = quiet from c30)]] <;> rfl), hI.keep⟩)
  try simp only [zq] at c30
  refine g [[3],[7,7,6,3]] ?_;refine WP.ret2 rfl rfl rfl (RV.cellN AgF.h SzF.h rfl (vs := [_, _]) rfl (RdN.own (k := 0) (n := 2) rfl rfl)) (RV.tmp rfl) (fun w hI => ⟨congrArg Ending.returned (by rw [show polF p k quiet = (⟨p.up, wrI (p.calm + 1)⟩, true) from by rw [polF, if_neg (by omega), if_neg (by rintro (h | h); (rw [g14] at h; cases h); omega), if_neg (show ¬ wrI (p.calm + 1) = quiet from c30)]] <;> rfl), hI.keep⟩)
theorem zoX (f : Flag) {a b : Int} {i k : Nat} (h : i < (b - a + 1).toNat) : ((rng a b).take (i + 1)).foldl (fun k n => k ||| kndI f n) k = ((rng a b).take i).foldl (fun k n => k ||| kndI f n) k ||| kndI f (a + (i : Int)) := by
  rw [zP (by rw [wH]; exact h), List.foldl_append, Xo h]; rfl
theorem zxJ (f : Flag) (n : Int) : kndI f n < 2 ^ 3 := by unfold kndI; split; decide; split <;> decide
theorem zox (f : Flag) : ∀ (l : List Int) (k : Nat), k < 2 ^ 3 → l.foldl (fun k n => k ||| kndI f n) k < 2 ^ 3
  | [], _, h => h
  | n :: l, k, h => zox f l _ (Nat.or_lt_two_pow h (zxJ f n))
theorem zrL (f : Flag) (m : zmF) (h : zqS) (hw : spB h.wind 0 12 = true) (w : World) : z8 Tryz.prog 167 [zrt f m, zzd h] w (nt (knsN f h)) := by
  unfold z8;rw [zmU] at hw;refine en Tryz.func167 rfl Tryz.ntmps167 zI (g [[1],[1,0,1]] ?_);refine WL.so (SO.box rfl rfl) rfl (zw fun b2 hb2 => ?_);refine WL.so (SO.box rfl rfl) rfl (zw fun b3 hb3 => ?_);refine g [[5],[8,4,3,2]] ?_;refine WC.loopF (fun i : Nat => [(2, pt b2), (3, pt b3), (4, nt (((rng h.wind.lo h.wind.hi).take i).foldl (fun k n => k ||| kndI f n) 0)), (5, it (h.wind.lo + ((i : Nat) : Int)))]) (fun i => i ≤ (h.wind.hi - h.wind.lo + 1).toNat ∧ (i = 0 ∨ h.thunder ≠ 2)) (fun i => (h.wind.hi - h.wind.lo + 1).toNat - i) 0 ⟨Nat.zero_le _, .inl rfl⟩ ⟨rfl, rfl, rfl, by show some (it _) = some (it _); congr 2; omega, trivial⟩ ?_;intro i ⟨hin, hd⟩;refine g [[2],[7,2,3,4,5]] ?_;refine WL.part 14 rfl (fun g14 => ?_) (fun g14 => ?_)
  · try simp only [zq] at g14
    have hi : i < (h.wind.hi - h.wind.lo + 1).toNat := by omega
    refine g [[6]] ?_;refine WC.cond rfl (fun c18 => ?_) (fun c18 => ?_)
    · try simp only [zq] at c18
      refine g [[6],[8,2,3,4,5]] ?_;refine WC.cond rfl (fun c23 => ?_) (fun c23 => ?_)
      · try simp only [zq] at c23
        refine g [[2,2,3,4,5]] ?_;refine WL.yd (Yd.orG (.inr rfl) (lt63 (n := 3) (zox f _ _ (by decide)) (by omega)) (by decide) rfl rfl) rfl (g [[5],[5,4,2,3,5]] ?_);exact WP.againF (i + 1) ⟨hi, .inr (by omega)⟩ (by omega) ⟨rfl, rfl, by rw [zoX f hi, show kndI f (h.wind.lo + (i : Int)) = 4 from if_pos (by omega)]; rfl, by show some (it _) = some (it _); congr 2; push_cast; omega, trivial⟩ (fun _ h => h) (fun h => h)
      try simp only [zq] at c23
      refine g [[1],[8,2,3,4,5]] ?_;refine WC.cond rfl (fun c30 => ?_) (fun c30 => ?_)
      · try simp only [zq] at c30
        refine g [[2,2,3,4,5]] ?_;refine WL.yd (Yd.orG (.inr rfl) (lt63 (n := 3) (zox f _ _ (by decide)) (by omega)) (by decide) rfl rfl) rfl (g [[5],[5,4,2,3,5]] ?_);exact WP.againF (i + 1) ⟨hi, .inr (by omega)⟩ (by omega) ⟨rfl, rfl, by rw [zoX f hi, show kndI f (h.wind.lo + (i : Int)) = 1 from by rw [kndI, if_neg (by omega), if_pos (by omega)]]; rfl, by show some (it _) = some (it _); congr 2; push_cast; omega, trivial⟩ (fun _ h => h) (fun h => h)
      try simp only [zq] at c30
      refine g [[2,2,3,4,5]] ?_;refine WL.yd (Yd.orG (.inr rfl) (lt63 (n := 3) (zox f _ _ (by decide)) (by omega)) (by decide) rfl rfl) rfl (g [[5],[5,4,2,3,5]] ?_);exact WP.againF (i + 1) ⟨hi, .inr (by omega)⟩ (by omega) ⟨rfl, rfl, by rw [zoX f hi, show kndI f (h.wind.lo + (i : Int)) = 2 from by rw [kndI, if_neg (by omega), if_neg (by omega)]]; rfl, by show some (it _) = some (it _); congr 2; push_cast; omega, trivial⟩ (fun _ h => h) (fun h => h)
    try simp only [zq] at c18
    refine g [[7]] ?_
    have hsum : ((rng h.wind.lo h.wind.hi).take i).foldl (fun k n => k ||| kndI f n) 0 = (if h.thunder = 2 then [] else rng h.wind.lo h.wind.hi).foldl (fun k n => k ||| kndI f n) 0 := by
      rw [if_pos (by omega)]; rcases hd with hd | hd; (subst hd; rfl); (exfalso; omega)
    generalize hg : ((rng h.wind.lo h.wind.hi).take i).foldl (fun k n => k ||| kndI f n) 0 = g0 at hsum ⊢;have hlt : g0 < 2 ^ 3 := by rw [← hg]; exact zox f _ _ (by decide)
    refine g [[6,3,4]] ?_;refine WC.cond rfl (fun c39 => ?_) (fun c39 => ?_)
    · try simp only [zq] at c39
      refine g [[2,4]] ?_;refine WL.yd (Yd.orG (.inr rfl) (lt63 (n := 3) hlt (by omega)) (by decide) rfl rfl) rfl (g [[4],[6,4]] ?_);refine WP.ret1 rfl rfl rfl (RV.tmp rfl) (fun w hI => ⟨congrArg (fun k : Nat => Ending.returned (nt k)) (by rw [hsum]; unfold knsN; rw [if_neg (show ¬ h.thunder = 0 by omega)]), hI.keep⟩)
    try simp only [zq] at c39
    refine g [[3],[6,4]] ?_;refine WP.ret1 rfl rfl rfl (RV.tmp rfl) (fun w hI => ⟨congrArg (fun k : Nat => Ending.returned (nt k)) (by rw [hsum]; unfold knsN; rw [if_pos (show h.thunder = 0 by omega)]; exact (Nat.or_zero _).symm), hI.keep⟩)
  try simp only [zq] at g14
  have hi : ¬ i < (h.wind.hi - h.wind.lo + 1).toNat := by omega
  refine g [[14]] ?_
  have hsum : ((rng h.wind.lo h.wind.hi).take i).foldl (fun k n => k ||| kndI f n) 0 = (if h.thunder = 2 then [] else rng h.wind.lo h.wind.hi).foldl (fun k n => k ||| kndI f n) 0 := by
    rw [if_neg (by rcases hd with hd | hd; (subst hd; omega); exact hd), List.take_of_length_le (by rw [wH]; omega)]; done
  generalize hg : ((rng h.wind.lo h.wind.hi).take i).foldl (fun k n => k ||| kndI f n) 0 = g0 at hsum ⊢;have hlt : g0 < 2 ^ 3 := by rw [← hg]; exact zox f _ _ (by decide)
  refine g [[6,3,4]] ?_;refine WC.cond rfl (fun c39 => ?_) (fun c39 => ?_)
  · try simp only [zq] at c39
    refine g [[2,4]] ?_;refine WL.yd (Yd.orG (.inr rfl) (lt63 (n := 3) hlt (by omega)) (by decide) rfl rfl) rfl (g [[4],[6,4]] ?_);refine WP.ret1 rfl rfl rfl (RV.tmp rfl) (fun w hI => ⟨congrArg (fun k : Nat => Ending.returned (nt k)) (by rw [hsum]; unfold knsN; rw [if_neg (show ¬ h.thunder = 0 by omega)]), hI.keep⟩)
  try simp only [zq] at c39
  refine g [[3],[6,4]] ?_;refine WP.ret1 rfl rfl rfl (RV.tmp rfl) (fun w hI => ⟨congrArg (fun k : Nat => Ending.returned (nt k)) (by rw [hsum]; unfold knsN; rw [if_pos (show h.thunder = 0 by omega)]; exact (Nat.or_zero _).symm), hI.keep⟩)
def fbC (f : Flag) (m : zmF) (K : Nat → Nat) (U V : Nat → Bool) : List Value := [it f.low, it f.high, it f.quiet, slV m.h, slV m.s, nt (K 0), nt (K 1), nt (K 2), nt (K 3), nt (K 4), nt (K 5), nt (K 6), nt (K 7), nt (K 8), .bool (U 0), .bool (U 1), .bool (U 2), .bool (U 3), .bool (U 4), .bool (U 5), .bool (U 6), .bool (U 7), .bool (U 8), .bool (V 0), .bool (V 1), .bool (V 2), .bool (V 3), .bool (V 4), .bool (V 5), .bool (V 6), .bool (V 7), .bool (V 8)]
def fbO (f : Flag) (m : zmF) (K : Nat → Nat) (U V : Nat → Bool) : Obj := .cells (List.toArray (fbC f m K U V)) 277 (0, 0)
section
variable (f : Flag) (m : zmF) (K : Nat → Nat) (U V : Nat → Bool) {i : Nat} (hi : i < 9)
include hi
theorem fb_k : (fbC f m K U V)[0 + 5 + 0 + i * 1]? = some (nt (K i)) := by
  rcases (show i = 0 ∨ i = 1 ∨ i = 2 ∨ i = 3 ∨ i = 4 ∨ i = 5 ∨ i = 6 ∨ i = 7 ∨ i = 8 by omega) with rfl | rfl | rfl | rfl | rfl | rfl | rfl | rfl | rfl <;> rfl
theorem fb_u : (fbC f m K U V)[0 + 5 + 9 + i * 1]? = some (.bool (U i)) := by
  rcases (show i = 0 ∨ i = 1 ∨ i = 2 ∨ i = 3 ∨ i = 4 ∨ i = 5 ∨ i = 6 ∨ i = 7 ∨ i = 8 by omega) with rfl | rfl | rfl | rfl | rfl | rfl | rfl | rfl | rfl <;> rfl
theorem fb_v : (fbC f m K U V)[0 + 5 + 18 + i * 1]? = some (.bool (V i)) := by
  rcases (show i = 0 ∨ i = 1 ∨ i = 2 ∨ i = 3 ∨ i = 4 ∨ i = 5 ∨ i = 6 ∨ i = 7 ∨ i = 8 by omega) with rfl | rfl | rfl | rfl | rfl | rfl | rfl | rfl | rfl <;> rfl
theorem zz8 (x : Nat) : splice (fbC f m K U V) (0 + 5 + 0 + i * 1) [nt x] = fbC f m (fun j => if j = i then x else K j) U V := by
  rcases (show i = 0 ∨ i = 1 ∨ i = 2 ∨ i = 3 ∨ i = 4 ∨ i = 5 ∨ i = 6 ∨ i = 7 ∨ i = 8 by omega) with rfl | rfl | rfl | rfl | rfl | rfl | rfl | rfl | rfl <;> simp [fbC, splice]
theorem zxo (x : Bool) : splice (fbC f m K U V) (0 + 5 + 9 + i * 1) [.bool x] = fbC f m K (fun j => if j = i then x else U j) V := by
  rcases (show i = 0 ∨ i = 1 ∨ i = 2 ∨ i = 3 ∨ i = 4 ∨ i = 5 ∨ i = 6 ∨ i = 7 ∨ i = 8 by omega) with rfl | rfl | rfl | rfl | rfl | rfl | rfl | rfl | rfl <;> simp [fbC, splice]
theorem zxp (x : Bool) : splice (fbC f m K U V) (0 + 5 + 18 + i * 1) [.bool x] = fbC f m K U (fun j => if j = i then x else V j) := by
  rcases (show i = 0 ∨ i = 1 ∨ i = 2 ∨ i = 3 ∨ i = 4 ∨ i = 5 ∨ i = 6 ∨ i = 7 ∨ i = 8 by omega) with rfl | rfl | rfl | rfl | rfl | rfl | rfl | rfl | rfl <;> simp [fbC, splice]
end
def kkF (f : Flag) (k : Nat) : Nat → Nat := fun j => if j < k then knsN f (gt f.hours j) else 0
def ltF (k : Nat) : Nat → Bool := fun j => decide (j < k)
theorem zty (f : Flag) (k : Nat) : (fun j => if j = k then knsN f (gt f.hours k) else kkF f k j) = kkF f (k + 1) := by
  funext j; unfold kkF;by_cases e : j = k
  · subst e; simp
  by_cases e2 : j < k
  · simp [e, e2, show j < k + 1 by omega]
  simp [e, e2, show ¬ j < k + 1 by omega]
theorem ztD (k : Nat) : (fun j => if j = k then true else ltF k j) = ltF (k + 1) := by
  funext j; unfold ltF;by_cases e : j = k
  · subst e; simp
  rw [if_neg e]; rw [Bool.eq_iff_iff]; simp only [decide_eq_true_eq]; omega
def seF (f : Flag) (up : Bool) (k : Nat) : Nat → Bool := fun j => ltF f.hours.length j && (f.seen.take k).all fun s => (if up then s.up else !s.up) || !decide (s.hour = (j : Int))
theorem zqF (f : Flag) (up : Bool) : seF f up 0 = ltF f.hours.length := by funext j; simp [seF]
theorem zqE {f : Flag} {up : Bool} {k : Nat} (hk : k < f.seen.length) (h : (if up then (gt f.seen k).up else !(gt f.seen k).up) = true) : seF f up (k + 1) = seF f up k := by
  funext j; unfold seF;rw [zP hk, List.all_append];simp only [List.all_cons, List.all_nil, Bool.and_true];rw [h, Bool.true_or, Bool.and_true]
theorem zsq {f : Flag} {up : Bool} {k a : Nat} (hk : k < f.seen.length) (h : (if up then (gt f.seen k).up else !(gt f.seen k).up) = false) (ha : (gt f.seen k).hour = (a : Int)) : (fun j => if j = a then false else seF f up k j) = seF f up (k + 1) := by
  funext j; unfold seF;rw [zP hk, List.all_append];simp only [List.all_cons, List.all_nil, Bool.and_true];rw [h, Bool.false_or, ha];by_cases e : j = a
  · subst e; rw [if_pos rfl, decide_eq_true rfl, Bool.not_true, Bool.and_false, Bool.and_false]
  rw [if_neg e, decide_eq_false (by omega), Bool.not_false, Bool.and_true]
theorem zy7 (f : Flag) {j : Nat} (hj : j < f.hours.length) : seF f true f.seen.length j = upB f j := by
  unfold seF upB ltF; rw [List.take_length, decide_eq_true hj, Bool.true_and]; rfl
theorem zuG (f : Flag) {j : Nat} (hj : j < f.hours.length) : seF f false f.seen.length j = dnB f j := by
  unfold seF dnB ltF; rw [List.take_length, decide_eq_true hj, Bool.true_and]; rfl
theorem zy8 (f : Flag) (m : zmF) (D : Imm) (hR : zpN D f m) (hok : K5 f) (bb : Nat) (w : World) (hI0 : Inv D [(bb, fbO f m (kkF f f.hours.length) (ltF f.hours.length) (ltF f.hours.length))] [bb] w w) : zp Tryz.prog 168 [pt bb, slV m.s] w D [bb] (fun v D' hp' => D = D' ∧ v = .tuple #[] ∧ hp' = [(bb, fbO f m (kkF f f.hours.length) (seF f true f.seen.length) (seF f false f.seen.length))]) := by
  unfold zp;obtain ⟨⟨ha, hn, hc⟩, ⟨sa, sn, sc⟩⟩ := m;obtain rfl : hn = f.hours.length := hR.h.len';obtain rfl : sn = f.seen.length := hR.s.len';have hRs : SlL D 2 (f.seen.map zsr) sa f.seen.length := hR.s;have nhh := hok.nhours;have nss := hok.nseen;refine en Tryz.func168 rfl Tryz.ntmps168 hI0 (g [[1],[7,0,1]] ?_);refine WC.loop (fun k : Nat => [(0, pt bb), (6, .slice sa f.seen.length sc), (7, nt f.seen.length), (8, nt k)]) (fun k => [(bb, fbO f ⟨⟨ha, f.hours.length, hc⟩, ⟨sa, f.seen.length, sc⟩⟩ (kkF f f.hours.length) (seF f true k) (seF f false k))]) (fun _ => D) (fun k => k ≤ f.seen.length) (fun k => f.seen.length - k) 0 (Nat.zero_le _) (fun a w ha => by rw [zqF, zqF]; exact y4 ha ⟨rfl, rfl, rfl, rfl, trivial⟩) ?_;intro k hk;refine g [[1],[5,0,6,7,8]] ?_;refine WC.cond rfl (fun c9 => ?_) (fun c9 => ?_)
  · try simp only [zq] at c9
    have hks : k < f.seen.length := by omega
    have hsk := hok.seen _ (yE hks);obtain ⟨a, ha⟩ : ∃ a : Nat, (gt f.seen k).hour = (a : Int) := ⟨(gt f.seen k).hour.toNat, by omega⟩;have ha9 : a < 9 := by omega
    refine g [[5],[1,0,6,7,8]] ?_;refine WL.yd (Yd.indexS UnF.h SzF.h rfl rfl (by (try dsimp only); omega) (by (try dsimp only); omega) (hRs.addr k (by omega))) rfl ?_;refine WL.yd (Yd.lV [_, _] rfl ((hRs.at k (by omega)).rdn 0 2 rfl)) rfl ?_;refine WL.so (SO.alloc ZvF.h rfl) rfl (zw fun b5 hb5 => ?_);refine g [[4],[5,5,0,6,7,8]] ?_;refine WC.cond rfl (fun c13 => ?_) (fun c13 => ?_)
    · refine g [[0,5,0,6,7,8]] ?_;refine WC.drawO [_] (pz [1,3,5,7,9,11,13,14]) zk zk zX (fun _ hI => Inv.left (l1 := [_]) (l2 := [_]) hI) (g [[6]] ?_);refine WA.know 16 (nt a) rfl (congrArg it ha) ?_;refine WA.yd rfl (Yd.indexA UnF.h SzF.h rfl rfl (by (try dsimp only); omega) (by (try dsimp only); omega)) rfl ?_;refine WA.so rfl (SO.store 1 rfl SzF.h rfl rfl rfl rfl (by show 0 + 5 + 18 + a * 1 + 1 ≤ 32; omega) (za rfl)) rfl ?_;rintro _ _ _ ⟨rfl, rfl, rfl⟩;refine ⟨fun _ hI => Inv.left (l1 := [_]) hI, ?_⟩;refine g [[3],[1,0,6,7,8]] ?_;refine WL.yd (Yd.add rfl rfl (wr64 ⟨by (try dsimp only); omega, by (try dsimp only); omega⟩)) rfl (g [[2]] ?_);refine WP.again (k + 1) hks (by omega) (fun aa w hA => ?_);dsimp only [fbO];rw [zqE (up := true) hks (by simp_all), ← zsq (up := false) hks (by simp_all) ha, ← zxp _ _ _ _ _ ha9];exact zL 1 hA ⟨rfl, rfl, rfl, rfl, trivial⟩ (List.Perm.refl _)
    refine g [[0,5,0,6,7,8]] ?_;refine WC.drawO [_] (pz [1,3,5,7,9,11,13,14]) zk zk zX (fun _ hI => Inv.left (l1 := [_]) (l2 := [_]) hI) (g [[6]] ?_);refine WA.know 23 (nt a) rfl (congrArg it ha) ?_;refine WA.yd rfl (Yd.indexA UnF.h SzF.h rfl rfl (by (try dsimp only); omega) (by (try dsimp only); omega)) rfl ?_;refine WA.so rfl (SO.store 1 rfl SzF.h rfl rfl rfl rfl (by show 0 + 5 + 9 + a * 1 + 1 ≤ 32; omega) (za rfl)) rfl ?_;rintro _ _ _ ⟨rfl, rfl, rfl⟩;refine ⟨fun _ hI => Inv.left (l1 := [_]) hI, ?_⟩;refine g [[3],[1,0,6,7,8]] ?_;refine WL.yd (Yd.add rfl rfl (wr64 ⟨by (try dsimp only); omega, by (try dsimp only); omega⟩)) rfl (g [[2]] ?_);refine WP.again (k + 1) hks (by omega) (fun aa w hA => ?_);dsimp only [fbO];rw [zqE (up := false) hks (by simp_all), ← zsq (up := true) hks (by simp_all) ha, ← zxo _ _ _ _ _ ha9];exact zL 1 hA ⟨rfl, rfl, rfl, rfl, trivial⟩ (List.Perm.refl _)
  try simp only [zq] at c9
  obtain rfl : k = f.seen.length := by omega
  refine g [[4]] ?_;refine WP.ret0 rfl rfl rfl  (fun w1 hI => ⟨_, D, _, rfl, DExt.refl _ _, hI, rfl, rfl, rfl⟩)
theorem zyO : zj Tryz.prog 277 [.int .i64 0, .int .i64 0, .int .i64 0, .slice none 0 0, .slice none 0 0, .int .i64 0, .int .i64 0, .int .i64 0, .int .i64 0, .int .i64 0, .int .i64 0, .int .i64 0, .int .i64 0, .int .i64 0, .bool false, .bool false, .bool false, .bool false, .bool false, .bool false, .bool false, .bool false, .bool false, .bool false, .bool false, .bool false, .bool false, .bool false, .bool false, .bool false, .bool false, .bool false] [(0, 5), (5, 27)] := ⟨⟨_, Tryz.zeroValue277, rfl⟩, _, Tryz.underlying277, fun w => by simp [Tryz.sizeOf53, Tryz.sizeOf275]⟩
abbrev zwV := SaF.mk zyO
attribute [instance] zwV
theorem zvU (f : Flag) (m : zmF) (D : Imm) (hR : zpN D f m) (hok : K5 f) (w : World) (hH : Holds D w) : News Tryz.prog 92 [zrt f m, .bool true] w D (fun v D' h' => ∃ q, v = pt q ∧ D' q = some (fbO f m (kkF f f.hours.length) (seF f true f.seen.length) (seF f false f.seen.length)) ∧ h' = []) := by
  unfold News;obtain ⟨⟨ha, hn, hc⟩, ⟨sa, sn, sc⟩⟩ := m;obtain rfl : hn = f.hours.length := hR.h.len';obtain rfl : sn = f.seen.length := hR.s.len';have hRh : SlL D 3 (f.hours.map zts) ha f.hours.length := hR.h;have hRs : SlL D 2 (f.seen.map zsr) sa f.seen.length := hR.s;have nh : f.hours.length ≤ 9223372036854775807 := hR.nh;have ns : f.seen.length ≤ 9223372036854775807 := hR.ns;dsimp only [zrt, slV];have nhh := hok.nhours;have nss := hok.nseen;have hlw := hok.low;have hqt := hok.quiet;refine en Tryz.func92 rfl Tryz.ntmps92 (Inv.start hH) (g [[1],[1,0,1]] ?_);refine WL.so (SO.box rfl rfl) rfl (zw fun b2 hb2 => ?_);refine g [[4],[5,4,2,1]] ?_;refine WL.part 15 rfl (fun g15 => ?_) (fun g15 => ?_)
  · try simp only [zq] at g15
    refine g [[7]] ?_;refine WL.part 22 rfl (fun g22 => ?_) (fun g22 => ?_)
    · try simp only [zq] at g22
      refine g [[5]] ?_;refine WL.part 27 rfl (fun g27 => ?_) (fun g27 => ?_)
      · try simp only [zq] at g27
        refine g [[2]] ?_;refine WL.sog rfl (SO.callP CaF.h rfl (fun w hI => zop _ _ _ _)) rfl (zs (g [[2]] ?_));refine WL.part 32 rfl (fun g32 => ?_) (fun g32 => ?_)
        · refine g [[6]] ?_;refine WL.part 38 rfl (fun g38 => ?_) (fun g38 => ?_)
          · try simp only [zq] at g38
            refine g [[5]] ?_;refine WL.part 43 rfl (fun g43 => ?_) (fun g43 => ?_)
            · try simp only [zq] at g43
              refine WL.cl rfl (fun w hI => znn _ _) (g [[4],[8,4,2,1]] ?_);refine WC.loopF (fun k : Nat => [(1, .bool true), (2, pt b2), (46, .slice ha f.hours.length hc), (47, nt f.hours.length), (48, nt k)]) (fun k => k ≤ f.hours.length) (fun k => f.hours.length - k) 0 (Nat.zero_le _) (by exact ⟨rfl, rfl, rfl, rfl, rfl, trivial⟩) ?_;intro k hk;refine g [[1],[5,1,2,46,47,48]] ?_;refine WC.cond rfl (fun c49 => ?_) (fun c49 => ?_)
              · try simp only [zq] at c49
                have hkl : k < f.hours.length := by omega
                have hhr := hok.hours _ (yE hkl);rw [zmU] at hhr;refine g [[5],[1,1,2,46,47,48]] ?_;refine WL.yd (Yd.indexS UnF.h SzF.h rfl rfl (by (try dsimp only); omega) (by (try dsimp only); omega) (hRh.addr k (by omega))) rfl ?_;refine WL.yd (Yd.lV [_, _, _] rfl ((hRh.at k (by omega)).rdn 0 3 rfl)) rfl ?_;refine WL.so (SO.alloc ZvF.h rfl) rfl (zw fun b6 hb6 => ?_);refine g [[3],[6,6,1,2,46,47,48]] ?_;refine WL.part 56 rfl (fun g56 => ?_) (fun g56 => ?_)
                · try simp only [zq] at g56
                  refine g [[9]] ?_;refine WL.part 65 rfl (fun g65 => ?_) (fun g65 => ?_)
                  · try simp only [zq] at g65
                    refine g [[6]] ?_;refine WL.part 71 rfl (fun g71 => ?_) (fun g71 => ?_)
                    · try simp only [zq] at g71
                      refine g [[2]] ?_;refine WL.sog rfl (SO.callP CaF.h rfl (fun w hI => zop _ _ _ _)) rfl (zs (g [[1]] ?_));refine WL.part 75 rfl (fun g75 => ?_) (fun g75 => ?_)
                      · refine WL.cl rfl (fun w hI => znn _ _) (g [[3],[1,1,2,46,47,48]] ?_);refine WL.yd (Yd.add rfl rfl (wr64 ⟨by (try dsimp only); omega, by (try dsimp only); omega⟩)) rfl (g [[2]] ?_);exact WP.againF (k + 1) hkl (by omega) ⟨rfl, rfl, rfl, rfl, rfl, trivial⟩ (fun _ h => List.mem_cons_of_mem _ h) (fun h => (List.nodup_cons.1 h).2)
                      refine WL.nf rfl (fun w hI => zmu _ _) (g [[5]] ?_)
                      exfalso; have h1 := hok.low; have h2 := hok.quiet; have h3 := hok.nhours; have h4 := hok.nseen; simp_all [inB]; done
                    try simp only [zq] at g71
                    refine g [[4]] ?_;refine WL.nf rfl (fun w hI => zmu _ _) (g [[5]] ?_)
                    exfalso; have h1 := hok.low; have h2 := hok.quiet; have h3 := hok.nhours; have h4 := hok.nseen; simp_all [inB]; omega
                  try simp only [zq] at g65
                  refine g [[10]] ?_;refine WL.nf rfl (fun w hI => zmu _ _) (g [[5]] ?_)
                  exfalso; have h1 := hok.low; have h2 := hok.quiet; have h3 := hok.nhours; have h4 := hok.nseen; simp_all [inB]; omega
                try simp only [zq] at g56
                refine g [[19]] ?_;refine WL.nf rfl (fun w hI => zmu _ _) (g [[5]] ?_)
                exfalso; have h1 := hok.low; have h2 := hok.quiet; have h3 := hok.nhours; have h4 := hok.nseen; simp_all [inB]; omega
              try simp only [zq] at c49
              obtain rfl : k = f.hours.length := by omega
              refine g [[7],[8,1,2]] ?_;refine WC.loopF (fun k : Nat => [(1, .bool true), (2, pt b2), (79, .slice sa f.seen.length sc), (80, nt f.seen.length), (81, nt k)]) (fun k => k ≤ f.seen.length) (fun k => f.seen.length - k) 0 (Nat.zero_le _) (by exact ⟨rfl, rfl, rfl, rfl, rfl, trivial⟩) ?_;intro k hk;refine g [[1],[5,1,2,79,80,81]] ?_;refine WC.cond rfl (fun c82 => ?_) (fun c82 => ?_)
              · try simp only [zq] at c82
                have hkl : k < f.seen.length := by omega
                have hhs := hok.seen _ (yE hkl);refine g [[5],[1,1,2,79,80,81]] ?_;refine WL.yd (Yd.indexS UnF.h SzF.h rfl rfl (by (try dsimp only); omega) (by (try dsimp only); omega) (hRs.addr k (by omega))) rfl ?_;refine WL.yd (Yd.lV [_, _] rfl ((hRs.at k (by omega)).rdn 0 2 rfl)) rfl ?_;refine WL.so (SO.alloc ZvF.h rfl) rfl (zw fun b8 hb8 => ?_);refine g [[3],[6,8,1,2,79,80,81]] ?_;refine WL.yd (Yd.sub rfl rfl (wr64 ⟨by (try dsimp only); omega, by (try dsimp only); omega⟩)) rfl ?_;refine WL.cl rfl (fun w hI => zop _ _ _ _) ?_;refine WL.part 91 rfl (fun g91 => ?_) (fun g91 => ?_)
                · refine WL.cl rfl (fun w hI => znn _ _) (g [[3],[1,1,2,79,80,81]] ?_);refine WL.yd (Yd.add rfl rfl (wr64 ⟨by (try dsimp only); omega, by (try dsimp only); omega⟩)) rfl (g [[2]] ?_);exact WP.againF (k + 1) hkl (by omega) ⟨rfl, rfl, rfl, rfl, rfl, trivial⟩ (fun _ h => List.mem_cons_of_mem _ h) (fun h => (List.nodup_cons.1 h).2)
                refine WL.nf rfl (fun w hI => zmu _ _) (g [[5]] ?_)
                exfalso; have h1 := hok.low; have h2 := hok.quiet; have h3 := hok.nhours; have h4 := hok.nseen; simp_all [inB]; done
              try simp only [zq] at c82
              obtain rfl : k = f.seen.length := by omega
              refine g [[6],[2,1,2]] ?_;refine WL.cl rfl (fun w hI => znn _ _) (g [[3],[3,2]] ?_);refine WL.so (SO.box rfl rfl) rfl (zw fun b98 hb98 => ?_);refine g [[5],[8,9,2]] ?_;refine WC.loop (fun k : Nat => [(2, pt b2), (9, pt b98), (100, .slice ha f.hours.length hc), (101, nt f.hours.length), (102, nt k)]) (fun k => [(b98, fbO f ⟨⟨ha, f.hours.length, hc⟩, ⟨sa, f.seen.length, sc⟩⟩ (kkF f k) (ltF k) (ltF k)), (b2, .cells (List.toArray [it f.low, it f.high, it f.quiet, .slice ha f.hours.length hc, .slice sa f.seen.length sc]) 53 (0, 0))]) (fun _ => D) (fun k => k ≤ f.hours.length) (fun k => f.hours.length - k) 0 (Nat.zero_le _) (fun a w ha => by rw [show kkF f 0 = fun _ => 0 from funext fun j => if_neg (Nat.not_lt_zero j), show ltF 0 = fun _ => false from funext fun j => decide_eq_false (Nat.not_lt_zero j)]; exact y4 ha ⟨rfl, rfl, rfl, rfl, rfl, trivial⟩) ?_;intro k hk;refine g [[1],[5,2,9,100,101,102]] ?_;refine WC.cond rfl (fun c103 => ?_) (fun c103 => ?_)
              · try simp only [zq] at c103
                have hkl : k < f.hours.length := by omega
                have hk9 : k < 9 := by omega
                refine g [[5],[2,2,9,100,101,102]] ?_;refine WL.yd (Yd.indexS UnF.h SzF.h rfl rfl (by (try dsimp only); omega) (by (try dsimp only); omega) (hRh.addr k (by omega))) rfl ?_;refine WL.yd (Yd.lV [_, _, _] rfl ((hRh.at k (by omega)).rdn 0 3 rfl)) rfl ?_;refine WL.so (SO.alloc ZvF.h rfl) rfl (zw fun b11 hb11 => ?_);refine g [[4],[0,10,11,2,9,100,101,102]] ?_;refine WC.drawO [(b11, .cells (List.toArray [it (gt f.hours k).wind.lo, it (gt f.hours k).wind.hi, it (gt f.hours k).thunder]) 141 (0, 0)), (b2, .cells (List.toArray [it f.low, it f.high, it f.quiet, .slice ha f.hours.length hc, .slice sa f.seen.length sc]) 53 (0, 0))] (pz [1,3,5,7,9,11,13,15,19,21,23,29,31,33,39,41,43,16,25,26,35,36,45,46]) zk zk zX (fun _ hI => hI.sub zU1 (zU3 hI.nodup)) (g [[17]] ?_);refine WA.so rfl (SO.callP CaF.h rfl (fun w hI => zrL f ⟨⟨ha, f.hours.length, hc⟩, ⟨sa, f.seen.length, sc⟩⟩ (gt f.hours k) (hok.hours _ (yE hkl)).1 _)) rfl (zs ⟨fun _ hI => hI.sub zU1 (zU3 hI.nodup), ?_⟩);refine WA.yd rfl (Yd.indexA UnF.h SzF.h rfl rfl (by (try dsimp only); omega) (by (try dsimp only); omega)) rfl ?_;refine WA.so rfl (SO.store 1 rfl SzF.h rfl rfl rfl rfl (by show 0 + 5 + 0 + k * 1 + 1 ≤ 32; omega) (za rfl)) rfl ?_;rintro _ _ _ ⟨rfl, rfl, rfl⟩;refine ⟨fun _ hI => hI.sub zU1 (zU3 hI.nodup), ?_⟩;refine WA.yd rfl (Yd.indexA UnF.h SzF.h rfl rfl (by (try dsimp only); omega) (by (try dsimp only); omega)) rfl ?_;refine WA.so rfl (SO.store 1 rfl SzF.h rfl rfl rfl rfl (by rw [kW (show 0 + 5 + 0 + k * 1 + 1 ≤ 32 by omega)]; show 0 + 5 + 9 + k * 1 + 1 ≤ 32; omega) (za rfl)) rfl ?_;rintro _ _ _ ⟨rfl, rfl, rfl⟩;refine ⟨fun _ hI => hI.sub zU1 (zU3 hI.nodup), ?_⟩;refine WA.yd rfl (Yd.indexA UnF.h SzF.h rfl rfl (by (try dsimp only); omega) (by (try dsimp only); omega)) rfl ?_;refine WA.so rfl (SO.store 1 rfl SzF.h rfl rfl rfl rfl (by rw [kW (by rw [kW (show 0 + 5 + 0 + k * 1 + 1 ≤ 32 by omega)]; show 0 + 5 + 9 + k * 1 + 1 ≤ 32; omega), kW (show 0 + 5 + 0 + k * 1 + 1 ≤ 32 by omega)]; show 0 + 5 + 18 + k * 1 + 1 ≤ 32; omega) (za rfl)) rfl ?_;rintro _ _ _ ⟨rfl, rfl, rfl⟩;refine ⟨fun _ hI => hI.sub zU1 (zU3 hI.nodup), ?_⟩;refine g [[3],[1,2,9,100,101,102]] ?_;refine WL.yd (Yd.add rfl rfl (wr64 ⟨by (try dsimp only); omega, by (try dsimp only); omega⟩)) rfl (g [[2]] ?_);refine WP.again (k + 1) hkl (by omega) (fun aa w hA => ?_);dsimp only [fbO];rw [← zty, ← ztD, ← zxp _ _ _ _ _ hk9, ← zxo _ _ _ _ _ hk9, ← zz8 _ _ _ _ _ hk9];exact zL 1 hA ⟨rfl, rfl, rfl, rfl, rfl, trivial⟩ (List.Perm.refl _)
              try simp only [zq] at c103
              obtain rfl : k = f.hours.length := by omega
              refine g [[6],[4,2,9]] ?_;refine WL.so (SO.altersNP (own := [_]) (hpc := [(b98, fbO f ⟨⟨ha, f.hours.length, hc⟩, ⟨sa, f.seen.length, sc⟩⟩ (kkF f f.hours.length) (ltF f.hours.length) (ltF f.hours.length))]) (S1 := [b98]) (List.perm_append_comm (l₁ := [_]) (l₂ := [_])) (fun _ h => h) (fun _ h => h) (Enters.func CaF.h rfl) (fun w1 hI => zy8 f ⟨⟨ha, f.hours.length, hc⟩, ⟨sa, f.seen.length, sc⟩⟩ D hR hok b98 w1 hI)) rfl ?_;rintro _ _ _ ⟨hp3, _, ⟨rfl, rfl, rfl⟩, rfl⟩;refine g [[3],[2,9]] ?_;refine WL.freezeN 1 b98 (fbO f ⟨⟨ha, f.hours.length, hc⟩, ⟨sa, f.seen.length, sc⟩⟩ (kkF f f.hours.length) (seF f true f.seen.length) (seF f false f.seen.length)) rfl rfl hb98 (fun D98 hX98 h98 => ?_);refine g [[4]] ?_;refine WP.ret1 rfl rfl rfl (RV.tmp rfl) (fun w1 hI => ⟨_, _, _, rfl, hX98, hI.drop 1, b98, rfl, h98, rfl⟩)
            try simp only [zq] at g43
            refine WL.nf rfl (fun w hI => zmu _ _) (g [[1]] ?_)
            exfalso; have h1 := hok.low; have h2 := hok.quiet; have h3 := hok.nhours; have h4 := hok.nseen; simp_all [inB]; omega
          try simp only [zq] at g38
          refine g [[5]] ?_;refine WL.nf rfl (fun w hI => zmu _ _) (g [[1]] ?_)
          exfalso; have h1 := hok.low; have h2 := hok.quiet; have h3 := hok.nhours; have h4 := hok.nseen; simp_all [inB]; omega
        refine g [[11]] ?_;refine WL.nf rfl (fun w hI => zmu _ _) (g [[1]] ?_)
        exfalso; have h1 := hok.low; have h2 := hok.quiet; have h3 := hok.nhours; have h4 := hok.nseen; simp_all [inB]; done
      try simp only [zq] at g27
      refine g [[16]] ?_;refine WL.nf rfl (fun w hI => zmu _ _) (g [[1]] ?_)
      exfalso; have h1 := hok.low; have h2 := hok.quiet; have h3 := hok.nhours; have h4 := hok.nseen; simp_all [inB]; omega
    try simp only [zq] at g22
    refine g [[21]] ?_;refine WL.nf rfl (fun w hI => zmu _ _) (g [[1]] ?_)
    exfalso; have h1 := hok.low; have h2 := hok.quiet; have h3 := hok.nhours; have h4 := hok.nseen; simp_all [inB]; omega
  try simp only [zq] at g15
  refine g [[28]] ?_;refine WL.nf rfl (fun w hI => zmu _ _) (g [[1]] ?_)
  exfalso; have h1 := hok.low; have h2 := hok.quiet; have h3 := hok.nhours; have h4 := hok.nseen; simp_all [inB]; omega
theorem zyT : zj Tryz.prog 331 [.bool false, .int .i64 0, .bool false, .int .i64 0] [(0, 2), (2, 1), (3, 1)] := ⟨⟨_, Tryz.zeroValue331, rfl⟩, _, Tryz.underlying331, fun w => by simp [Tryz.sizeOf3, Tryz.sizeOf4, Tryz.sizeOf329]⟩
abbrev zx0 := SaF.mk zyT
attribute [instance] zx0
def soR (f : Flag) (p : Pole) (h k : Nat) : List Stp := ((List.range 3).drop k).filterMap (stpO f p h)
theorem zwc (f : Flag) (p : Pole) (h : Nat) : soR f p h 3 = [] := rfl
section
variable {f : Flag} {p : Pole} {h k : Nat}
include f p h k
theorem zqI (hk : k < 3) (e : stpO f p h k = none) : soR f p h k = soR f p h (k + 1) := by
  unfold soR; rw [w3 hk, List.filterMap_cons, e]
theorem zp5 {x : Stp} (hk : k < 3) (e : stpO f p h k = some x) : soR f p h k = x :: soR f p h (k + 1) := by
  conv => lhs; unfold soR
  rw [w3 hk, List.filterMap_cons, e]; rfl
theorem so_1 (e : hasN (knsN f (gt f.hours h)) k = false) : stpO f p h k = none := by unfold stpO; rw [if_pos e]
section
variable (e : hasN (knsN f (gt f.hours h)) k = true)
include e
theorem so_2 (c : ((polF p k f.quiet).2 && !upB f h || !(polF p k f.quiet).2 && !dnB f h) = true) : stpO f p h k = none := by unfold stpO; rw [if_neg (by rw [e]; decide), if_pos c]
theorem so_3 (c : ((polF p k f.quiet).2 && !upB f h || !(polF p k f.quiet).2 && !dnB f h) = false) : stpO f p h k = some ⟨(polF p k f.quiet).1, (polF p k f.quiet).2, k⟩ := by unfold stpO; rw [if_neg (by rw [e]; decide), if_neg (by rw [c]; decide)]
end
end
theorem zsy (q : Nat) (p : Pole) (n : Nat) (D : Imm) (w : World) (hH : Holds D w) : y6 Tryz.prog 234 [pt q, polV p, nt n] w D (fun v D' => ∃ b c d, v = .func (.func 255) #[] #[pt b, pt c, pt d] ∧ D' b = some (.cells (List.toArray [pt q]) 174 (0, 0)) ∧ D' c = some (.cells (List.toArray [nt n]) 3 (0, 0)) ∧ D' d = some (.cells (List.toArray [.bool p.up, it p.calm]) 329 (0, 0))) := by
  unfold y6;refine en Tryz.func234 rfl Tryz.ntmps234 (Inv.start hH) (g [[1],[1,0,1,2]] ?_);refine WL.so (SO.box rfl rfl) rfl (zw fun b3 hb3 => ?_);refine WL.so (SO.box rfl rfl) rfl (zw fun b4 hb4 => ?_);refine WL.so (SO.box rfl rfl) rfl (zw fun b5 hb5 => ?_);refine g [[4]] ?_;refine WC.freezeN 2 b3 (.cells (List.toArray [pt q]) 174 (0, 0)) rfl rfl hb3 (fun D1 hX1 h3 => ?_);refine WC.freezeN 1 b4 (.cells (List.toArray [.bool p.up, it p.calm]) 329 (0, 0)) rfl rfl hb4 (fun D2 hX2 h4 => ?_);refine WC.freezeN 0 b5 (.cells (List.toArray [nt n]) 3 (0, 0)) rfl rfl hb5 (fun D3 hX3 h5 => ?_);refine g [[6,6,5,4,3]] ?_;refine WP.ret1 rfl rfl rfl (RV.tmp rfl) (fun w1 hI => ⟨_, D3, rfl, hI.keep, hI.imm, (hX1.trans hX2 (Nat.le_refl _)).trans hX3 (Nat.le_refl _), b3, b5, b4, rfl, hX3.old _ _ (hX2.old _ _ h3), h5, hX3.old _ _ h4⟩)
theorem zoF (f : Flag) (m : zmF) (hok : K5 f) (p : Pole) (h : Nat) (hh : h < f.hours.length) (qb bs bh bp : Nat) (D : Imm) (hq : D qb = some (fbO f m (kkF f f.hours.length) (seF f true f.seen.length) (seF f false f.seen.length))) (hbs : D bs = some (.cells (List.toArray [pt qb]) 174 (0, 0))) (hbh : D bh = some (.cells (List.toArray [nt h]) 3 (0, 0))) (hbp : D bp = some (.cells (List.toArray [.bool p.up, it p.calm]) 329 (0, 0))) (w : World) : V9 Tryz.prog 255 [pt bs, pt bh, pt bp] (stpL f p h).length (fun k => stpV (gt (stpL f p h) k)) D w := by
  have h9 : h < 9 := by have := hok.nhours; omega
  intro ly St Sp hSm hround h0 hS0 hI0;unfold zp;refine en Tryz.func255 rfl Tryz.ntmps255 hI0 (WC.scope (g [[1],[0,0,1,2,3],[3005],[6]] ?_));refine WL.yd (Yd.indexA UnF.h SzF.h rfl rfl (by omega) (by omega)) rfl (WL.yd (Yd.l1 rfl (Rd.imm hq (fb_k _ _ _ _ _ h9))) rfl ?_);refine WL.know 16 (nt (knsN f (gt f.hours h))) rfl (congrArg (fun n : Nat => nt n) (if_pos hh)) (g [[5],[5,5,0,1,2,3]] ?_);refine WC.label (g [[2],[5,6,5,0,1,2,3]] ?_);refine WC.loop (fun y : Nat × Imm × Hp × List Stp => [(0, .func (.yield ly) #[] #[]), (1, pt bs), (2, pt bh), (3, pt bp), (5, .func (.func 256) #[nt (knsN f (gt f.hours h))] #[]), (6, .func (.func 257) #[] #[]), (18, nt y.1)]) (fun y => y.2.2.1) (fun y => y.2.1) (fun y => y.1 ≤ 3 ∧ DExt w D y.2.1 ∧ St y.2.2.2.length y.2.1 y.2.2.1 ∧ y.2.2.2 ++ soR f p h y.1 = (stpL f p h)) (fun y => 3 - y.1) (0, D, h0, []) ⟨Nat.zero_le _, DExt.refl _ _, hS0, rfl⟩ (fun a w ha => y4 ha ⟨rfl, rfl, rfl, rfl, rfl, rfl, rfl, trivial⟩) ?_;rintro ⟨k, D1, h1, done⟩ ⟨hk, hX1, hS1, hL⟩;dsimp only at hk hX1 hS1 hL;have hq1 := hX1.old _ _ hq;have hbs1 := hX1.old _ _ hbs;have hbh1 := hX1.old _ _ hbh;have hbp1 := hX1.old _ _ hbp;refine g [[1],[5,0,1,2,3,5,6,18]] ?_;refine WC.cond rfl (fun c19 => ?_) (fun c19 => ?_)
  · try simp only [zq] at c19
    have hk3 : k < 3 := by omega
    refine g [[5],[7,0,1,2,3,5,6,18],[3,7,0,1,2,3,5,6,18]] ?_;refine WL.so (SO.call (Enters.val CaF.h rfl rfl) (fun w hI => zxz (knsN f (gt f.hours h)) k (by omega) _)) rfl ?_;rintro _ _ _ ⟨rfl, rfl, e2_⟩;obtain rfl := e2_.symm;refine g [[3]] ?_;refine WC.cond rfl (fun c24 => ?_) (fun c24 => ?_)
    · try simp only [zq] at c24
      refine g [[4],[4,0,1,2,3,5,6,18]] ?_;exact WP.again (k + 1, D1, h1, done) ⟨hk3, hX1, hS1, by rw [← hL, zqI hk3 (so_1 (by simp_all))]⟩ (by show 3 - (k + 1) < 3 - k; omega) (fun a w ha => y4 ha ⟨rfl, rfl, rfl, rfl, rfl, rfl, rfl, trivial⟩)
    try simp only [zq] at c24
    have hhas : hasN (knsN f (gt f.hours h)) k = true := by simp_all
    refine g [[2]] ?_;refine WC.seqJ (α := Nat) (fun b8 => [(0, .func (.yield ly) #[] #[]), (1, pt bs), (2, pt bh), (3, pt bp), (5, .func (.func 256) #[nt (knsN f (gt f.hours h))] #[]), (6, .func (.func 257) #[] #[]), (7, nt k), (8, pt b8), (9, .bool (polF p k f.quiet).2), (18, nt k)]) (fun b8 => (b8, .cells (List.toArray [.bool (polF p k f.quiet).1.up, it (polF p k f.quiet).1.calm]) 329 (0, 0)) :: h1) (fun _ => D1) (fun b8 => w.heap.size ≤ b8) ?_ ?_
    · rintro b8 hb8;refine g [[2],[0,0,1,2,3,5,6,7,8,9,18],[3020],[2]] ?_;refine WQ.part 38 rfl (fun g38 => ?_) (fun g38 => ?_)
      · refine g [[5]] ?_;refine WQ.qg rfl rfl (Yd.qt (Yd.indexA UnF.h SzF.h rfl rfl (by omega) (by omega))) rfl (WQ.qg rfl rfl (Yd.qt (Yd.l1 rfl (Rd.imm hq1 (fb_u _ _ _ _ _ h9)))) rfl ?_);refine WQ.know 45 (.bool (upB f h)) rfl (congrArg Value.bool (zy7 f hh)) (g [[3]] ?_);refine WQ.part 48 rfl (fun g48 => ?_) (fun g48 => ?_)
        · try simp only [zq] at g48
          refine g [[21],[4,0,1,2,3,5,6,18]] ?_;exact WP.again (k + 1, D1, h1, done) ⟨hk3, hX1, hS1, by rw [← hL, zqI hk3 (so_2 hhas (by simp_all))]⟩ (by show 3 - (k + 1) < 3 - k; omega) (fun a w ha => zL 1 ha ⟨rfl, rfl, rfl, rfl, rfl, rfl, rfl, trivial⟩ (List.Perm.refl _))
        try simp only [zq] at g48
        refine g [[3]] ?_;refine WQ.part 51 rfl (fun g51 => ?_) (fun g51 => ?_)
        · try simp only [zq] at g51
          refine g [[6]] ?_;refine WL.ydg rfl (Yd.indexA UnF.h SzF.h rfl rfl (by omega) (by omega)) rfl (WL.ydg rfl (Yd.l1 rfl (Rd.imm hq1 (fb_v _ _ _ _ _ h9))) rfl ?_);refine WL.know 58 (.bool (dnB f h)) rfl (congrArg Value.bool (zuG f hh)) (g [[5]] ?_);refine WC.cond rfl (fun c61 => ?_) (fun c61 => ?_)
          · try simp only [zq] at c61
            refine g [[4],[4,0,1,2,3,5,6,18]] ?_;exact WP.again (k + 1, D1, h1, done) ⟨hk3, hX1, hS1, by rw [← hL, zqI hk3 (so_2 hhas (by simp_all))]⟩ (by show 3 - (k + 1) < 3 - k; omega) (fun a w ha => zL 1 ha ⟨rfl, rfl, rfl, rfl, rfl, rfl, rfl, trivial⟩ (List.Perm.refl _))
          try simp only [zq] at c61
          refine g [[3],[0,0,1,2,3,5,6,7,8,9,18]] ?_;refine WC.ofF (g [[1]] ?_);rw [zp5 hk3 (so_3 hhas (by simp_all))] at hL;obtain ⟨hq1_, hq2, hq3, hq4⟩ := znR (show done ++ (⟨(polF p k f.quiet).1, (polF p k f.quiet).2, k⟩ : Stp) :: soR f p h (k + 1) = (stpL f p h) from hL);refine g [[5]] ?_;refine WLF.yieldN (l := ly) (vals := [stpV (⟨(polF p k f.quiet).1, (polF p k f.quiet).2, k⟩ : Stp)]) [(b8, .cells (List.toArray [.bool (polF p k f.quiet).1.up, it (polF p k f.quiet).1.calm]) 329 (0, 0))] h1 (fun _ h => h) (fun h => h) rfl rfl rfl (fun w' hsz hI => by rw [← hq2]; exact hround done.length D1 h1 w' hq1_ hsz hX1 hS1 hI) ?_;rintro b36 D5 hp5 hK5 hX5;refine g [[3]] ?_;refine WC.cond rfl (fun c68 => ?_) (fun c68 => ?_)
          · try simp only [zq] at c68
            refine g [[5]] ?_;refine WP.scRet ?_
            refine WP.ret0 rfl rfl rfl  (fun w1 hI => by
              obtain ⟨htt, _⟩ | ⟨_, hK5⟩ := hK5
              · simp_all
              exact ⟨_, D5, hp5, rfl, hX1.trans hX5 (Nat.le_refl _), hI.drop 1, .inr hK5⟩)
          try simp only [zq] at c68
          refine g [[3],[4,0,1,2,3,5,6,18]] ?_;obtain ⟨_, hK5⟩ | ⟨hff, _⟩ := hK5
          · exact WP.again (k + 1, D5, hp5, done ++ [(⟨(polF p k f.quiet).1, (polF p k f.quiet).2, k⟩ : Stp)]) ⟨hk3, hX1.trans hX5 (Nat.le_refl _), by rw [hq4]; exact hK5, hq3⟩ (by show 3 - (k + 1) < 3 - k; omega) (fun a w ha => zL 1 ha ⟨rfl, rfl, rfl, rfl, rfl, rfl, rfl, trivial⟩ (List.Perm.refl _))
          simp_all
        try simp only [zq] at g51
        refine g [[17],[0,0,1,2,3,5,6,7,8,9,18]] ?_;refine WC.ofF (g [[1]] ?_);rw [zp5 hk3 (so_3 hhas (by simp_all))] at hL;obtain ⟨hq1_, hq2, hq3, hq4⟩ := znR (show done ++ (⟨(polF p k f.quiet).1, (polF p k f.quiet).2, k⟩ : Stp) :: soR f p h (k + 1) = (stpL f p h) from hL);refine g [[5]] ?_;refine WLF.yieldN (l := ly) (vals := [stpV (⟨(polF p k f.quiet).1, (polF p k f.quiet).2, k⟩ : Stp)]) [(b8, .cells (List.toArray [.bool (polF p k f.quiet).1.up, it (polF p k f.quiet).1.calm]) 329 (0, 0))] h1 (fun _ h => h) (fun h => h) rfl rfl rfl (fun w' hsz hI => by rw [← hq2]; exact hround done.length D1 h1 w' hq1_ hsz hX1 hS1 hI) ?_;rintro b36 D5 hp5 hK5 hX5;refine g [[3]] ?_;refine WC.cond rfl (fun c68 => ?_) (fun c68 => ?_)
        · try simp only [zq] at c68
          refine g [[5]] ?_;refine WP.scRet ?_
          refine WP.ret0 rfl rfl rfl  (fun w1 hI => by
            obtain ⟨htt, _⟩ | ⟨_, hK5⟩ := hK5
            · simp_all
            exact ⟨_, D5, hp5, rfl, hX1.trans hX5 (Nat.le_refl _), hI.drop 1, .inr hK5⟩)
        try simp only [zq] at c68
        refine g [[3],[4,0,1,2,3,5,6,18]] ?_;obtain ⟨_, hK5⟩ | ⟨hff, _⟩ := hK5
        · exact WP.again (k + 1, D5, hp5, done ++ [(⟨(polF p k f.quiet).1, (polF p k f.quiet).2, k⟩ : Stp)]) ⟨hk3, hX1.trans hX5 (Nat.le_refl _), by rw [hq4]; exact hK5, hq3⟩ (by show 3 - (k + 1) < 3 - k; omega) (fun a w ha => zL 1 ha ⟨rfl, rfl, rfl, rfl, rfl, rfl, rfl, trivial⟩ (List.Perm.refl _))
        simp_all
      refine g [[13]] ?_;refine WQ.part 51 rfl (fun g51 => ?_) (fun g51 => ?_)
      · try simp only [zq] at g51
        refine g [[6]] ?_;refine WL.ydg rfl (Yd.indexA UnF.h SzF.h rfl rfl (by omega) (by omega)) rfl (WL.ydg rfl (Yd.l1 rfl (Rd.imm hq1 (fb_v _ _ _ _ _ h9))) rfl ?_);refine WL.know 58 (.bool (dnB f h)) rfl (congrArg Value.bool (zuG f hh)) (g [[5]] ?_);refine WC.cond rfl (fun c61 => ?_) (fun c61 => ?_)
        · try simp only [zq] at c61
          refine g [[4],[4,0,1,2,3,5,6,18]] ?_;exact WP.again (k + 1, D1, h1, done) ⟨hk3, hX1, hS1, by rw [← hL, zqI hk3 (so_2 hhas (by simp_all))]⟩ (by show 3 - (k + 1) < 3 - k; omega) (fun a w ha => zL 1 ha ⟨rfl, rfl, rfl, rfl, rfl, rfl, rfl, trivial⟩ (List.Perm.refl _))
        try simp only [zq] at c61
        refine g [[3],[0,0,1,2,3,5,6,7,8,9,18]] ?_;refine WC.ofF (g [[1]] ?_);rw [zp5 hk3 (so_3 hhas (by simp_all))] at hL;obtain ⟨hq1_, hq2, hq3, hq4⟩ := znR (show done ++ (⟨(polF p k f.quiet).1, (polF p k f.quiet).2, k⟩ : Stp) :: soR f p h (k + 1) = (stpL f p h) from hL);refine g [[5]] ?_;refine WLF.yieldN (l := ly) (vals := [stpV (⟨(polF p k f.quiet).1, (polF p k f.quiet).2, k⟩ : Stp)]) [(b8, .cells (List.toArray [.bool (polF p k f.quiet).1.up, it (polF p k f.quiet).1.calm]) 329 (0, 0))] h1 (fun _ h => h) (fun h => h) rfl rfl rfl (fun w' hsz hI => by rw [← hq2]; exact hround done.length D1 h1 w' hq1_ hsz hX1 hS1 hI) ?_;rintro b36 D5 hp5 hK5 hX5;refine g [[3]] ?_;refine WC.cond rfl (fun c68 => ?_) (fun c68 => ?_)
        · try simp only [zq] at c68
          refine g [[5]] ?_;refine WP.scRet ?_
          refine WP.ret0 rfl rfl rfl  (fun w1 hI => by
            obtain ⟨htt, _⟩ | ⟨_, hK5⟩ := hK5
            · simp_all
            exact ⟨_, D5, hp5, rfl, hX1.trans hX5 (Nat.le_refl _), hI.drop 1, .inr hK5⟩)
        try simp only [zq] at c68
        refine g [[3],[4,0,1,2,3,5,6,18]] ?_;obtain ⟨_, hK5⟩ | ⟨hff, _⟩ := hK5
        · exact WP.again (k + 1, D5, hp5, done ++ [(⟨(polF p k f.quiet).1, (polF p k f.quiet).2, k⟩ : Stp)]) ⟨hk3, hX1.trans hX5 (Nat.le_refl _), by rw [hq4]; exact hK5, hq3⟩ (by show 3 - (k + 1) < 3 - k; omega) (fun a w ha => zL 1 ha ⟨rfl, rfl, rfl, rfl, rfl, rfl, rfl, trivial⟩ (List.Perm.refl _))
        simp_all
      try simp only [zq] at g51
      refine g [[17],[0,0,1,2,3,5,6,7,8,9,18]] ?_;refine WC.ofF (g [[1]] ?_);rw [zp5 hk3 (so_3 hhas (by simp_all))] at hL;obtain ⟨hq1_, hq2, hq3, hq4⟩ := znR (show done ++ (⟨(polF p k f.quiet).1, (polF p k f.quiet).2, k⟩ : Stp) :: soR f p h (k + 1) = (stpL f p h) from hL);refine g [[5]] ?_;refine WLF.yieldN (l := ly) (vals := [stpV (⟨(polF p k f.quiet).1, (polF p k f.quiet).2, k⟩ : Stp)]) [(b8, .cells (List.toArray [.bool (polF p k f.quiet).1.up, it (polF p k f.quiet).1.calm]) 329 (0, 0))] h1 (fun _ h => h) (fun h => h) rfl rfl rfl (fun w' hsz hI => by rw [← hq2]; exact hround done.length D1 h1 w' hq1_ hsz hX1 hS1 hI) ?_;rintro b36 D5 hp5 hK5 hX5;refine g [[3]] ?_;refine WC.cond rfl (fun c68 => ?_) (fun c68 => ?_)
      · try simp only [zq] at c68
        refine g [[5]] ?_;refine WP.scRet ?_
        refine WP.ret0 rfl rfl rfl  (fun w1 hI => by
          obtain ⟨htt, _⟩ | ⟨_, hK5⟩ := hK5
          · simp_all
          exact ⟨_, D5, hp5, rfl, hX1.trans hX5 (Nat.le_refl _), hI.drop 1, .inr hK5⟩)
      try simp only [zq] at c68
      refine g [[3],[4,0,1,2,3,5,6,18]] ?_;obtain ⟨_, hK5⟩ | ⟨hff, _⟩ := hK5
      · exact WP.again (k + 1, D5, hp5, done ++ [(⟨(polF p k f.quiet).1, (polF p k f.quiet).2, k⟩ : Stp)]) ⟨hk3, hX1.trans hX5 (Nat.le_refl _), by rw [hq4]; exact hK5, hq3⟩ (by show 3 - (k + 1) < 3 - k; omega) (fun a w ha => zL 1 ha ⟨rfl, rfl, rfl, rfl, rfl, rfl, rfl, trivial⟩ (List.Perm.refl _))
      simp_all
    skip;refine g [[0,7,0,1,2,3,5,6,18]] ?_;refine WC.drawH [] zk (fun _ hI => Inv.nil hI) (g [[1000],[1001],[1002],[1003],[1004],[1005],[1006],[1007]] ?_);refine WH.two (i := 8) (j := 12) zk ?_ ?_
    · refine WHo.so rfl (SO.call (Enters.val CaF.h rfl rfl) (fun w hI => zoD p k f.quiet _)) rfl (zs ⟨(fun _ hI => Inv.nil hI), ?_⟩);refine g [[1009],[1010],[1011]] ?_;refine WH.one (i := 12) zk (WHo.so rfl (SO.alloc ZvF.h rfl) rfl ?_);rintro _ _ _ ⟨b8, hb8, rfl, rfl, rfl⟩;refine ⟨(fun _ hI => Inv.nil hI), ?_⟩;refine WH.one (i := 13) zk (WHo.so rfl (SO.store 0 rfl SzF.h rfl rfl rfl rfl (zqb rfl) (za rfl)) rfl ?_);rintro _ _ _ ⟨rfl, rfl, rfl⟩;refine ⟨(fun _ hI => Inv.nil hI), ?_⟩;refine g [[1014]] ?_;refine WH.nil zk ?_;exact WP.join b8 hb8 (fun a w ha => y4 ha ⟨rfl, rfl, rfl, rfl, rfl, rfl, rfl, rfl, rfl, rfl, trivial⟩)
    refine WHo.so rfl (SO.alloc ZvF.h rfl) rfl ?_;rintro _ _ _ ⟨b8, hb8, rfl, rfl, rfl⟩;refine ⟨(fun _ hI => Inv.nil hI), ?_⟩;refine WH.one (i := 8) zk (WHo.so rfl (SO.call (Enters.val CaF.h rfl rfl) (fun w hI => zoD p k f.quiet _)) rfl (zs ⟨(fun _ hI => Inv.nil hI), ?_⟩));refine g [[1009],[1010],[1011]] ?_;refine WH.one (i := 13) zk (WHo.so rfl (SO.store 0 rfl SzF.h rfl rfl rfl rfl (zqb rfl) (za rfl)) rfl ?_);rintro _ _ _ ⟨rfl, rfl, rfl⟩;refine ⟨(fun _ hI => Inv.nil hI), ?_⟩;refine g [[1014]] ?_;refine WH.nil zk ?_;exact WP.join b8 hb8 (fun a w ha => y4 ha ⟨rfl, rfl, rfl, rfl, rfl, rfl, rfl, rfl, rfl, rfl, trivial⟩)
  try simp only [zq] at c19
  obtain rfl : k = 3 := by omega
  refine g [[4]] ?_;refine WP.scNormal ?_;refine WP.ret0 rfl rfl rfl  (fun w1 hI => ⟨_, D1, h1, rfl, hX1, hI, .inl (by rw [zwc, List.append_nil] at hL; rw [← hL]; exact hS1)⟩)
theorem zxO (d : Nat) (b : Bool) : Tryz.prog.keyLits (d + 1) 4 [.bool b] = some [.bool b] := by
  simp only [Program.keyLits, Tryz.underlying4]
theorem zpv (d : Nat) (b : Bool) (c : Int) (hc : zmn c) : Tryz.prog.keyLits (d + 2) 329 [.bool b, it c] = some [.bool b, .int .i64 c] := by
  have h2 : Tryz.prog.cellsOf 329 = 2 := by kernel_rfl
  have h1 : Tryz.prog.cellsOf 3 = 1 := by kernel_rfl
  have h1b : Tryz.prog.cellsOf 4 = 1 := by kernel_rfl
  unfold Program.keyLits;simp only [Tryz.underlying329, h2];simp [h1, h1b, zoz, zxO, hc]
abbrev atC (x : Pole × Nat) : List Value := [.bool x.1.up, it x.1.calm, nt x.2]
abbrev atV (x : Pole × Nat) : Value := .agg (atC x).toArray
theorem zoJ : ∀ x y : Pole × Nat, atV x = atV y → x = y := by
  rintro ⟨⟨a, b⟩, c⟩ ⟨⟨a', b'⟩, c'⟩ h;simp at h;obtain ⟨h1, h2, h3⟩ := h;have : c = c' := by omega
  subst h1; subst h2; subst this; rfl
theorem zus : Tryz.prog.keyType 376 = true := by kernel_rfl
theorem atKI : Go.Maps.Keyed Tryz.prog 376 := Go.Maps.Keyed.of_law (deep_law_gate zo6 (Nat.le_of_ble_eq_true zk) (Nat.le_of_ble_eq_true zk) zus zk)
theorem zvF {x : Pole × Nat} (hc : zmn x.1.calm) (hh : zmn (x.2 : Int)) : ∃ l, keyOf Tryz.prog 376 (atV x) = some l := by
  have h3 : Tryz.prog.cellsOf 376 = 3 := by kernel_rfl
  have h2 : Tryz.prog.cellsOf 329 = 2 := by kernel_rfl
  have h1 : Tryz.prog.cellsOf 3 = 1 := by kernel_rfl
  have hs : Tryz.prog.types.size + 1 = 451 + 3 := by kernel_rfl
  unfold keyOf;rw [Tryz.underlying376];have hf : (atV x).formed Tryz.prog 376 = true := by simp [atV, Value.formed, Tryz.underlying376, h3]
  simp only [zus, hf, Bool.and_self, if_true, hs]
  have hl : Tryz.prog.keyLits (451 + 3) 376 (atC x) = some [.bool x.1.up, .int .i64 x.1.calm, .int .i64 (x.2 : Int)] := by
    unfold Program.keyLits;simp only [Tryz.underlying376, h3];simp [h2, h1, zpv 451 _ _ hc, zoz _ _ hh]
  show ∃ l, (Tryz.prog.keyLits (451 + 3) 376 (atC x)).map _ = some l;rw [hl];exact ⟨_, rfl⟩
theorem zut : Tryz.prog.keyType 385 = true := by kernel_rfl
theorem atKS : Go.Maps.Keyed Tryz.prog 385 := Go.Maps.Keyed.of_law (deep_law_gate zo6 (Nat.le_of_ble_eq_true zk) (Nat.le_of_ble_eq_true zk) zut zk)
theorem zvG {x : Pole × Nat} (hc : zmn x.1.calm) (hh : zmn (x.2 : Int)) : ∃ l, keyOf Tryz.prog 385 (atV x) = some l := by
  have h3 : Tryz.prog.cellsOf 385 = 3 := by kernel_rfl
  have h2 : Tryz.prog.cellsOf 329 = 2 := by kernel_rfl
  have h1 : Tryz.prog.cellsOf 3 = 1 := by kernel_rfl
  have hs : Tryz.prog.types.size + 1 = 451 + 3 := by kernel_rfl
  unfold keyOf;rw [Tryz.underlying385];have hf : (atV x).formed Tryz.prog 385 = true := by simp [atV, Value.formed, Tryz.underlying385, h3]
  simp only [zut, hf, Bool.and_self, if_true, hs]
  have hl : Tryz.prog.keyLits (451 + 3) 385 (atC x) = some [.bool x.1.up, .int .i64 x.1.calm, .int .i64 (x.2 : Int)] := by
    unfold Program.keyLits;simp only [Tryz.underlying385, h3];simp [h2, h1, zpv 451 _ _ hc, zoz _ _ hh]
  show ∃ l, (Tryz.prog.keyLits (451 + 3) 385 (atC x)).map _ = some l;rw [hl];exact ⟨_, rfl⟩
theorem zxU (x : Stp) (h : Nat) (w : World) : z8 Tryz.prog 295 [.agg #[it (-1), it 0], stpV x, nt h] w (it 1) := by
  unfold z8;refine en Tryz.func295 rfl Tryz.ntmps295 zI (g [[1],[1,0,1,2]] ?_);refine WL.so (SO.box rfl rfl) rfl (zw fun b3 hb3 => ?_);refine WL.so (SO.box rfl rfl) rfl (zw fun b4 hb4 => ?_);refine g [[5],[6,6,4,3,2]] ?_;refine WL.part 11 rfl (fun g11 => ?_) (fun g11 => ?_)
  · try simp only [zq] at g11
    refine g [[8]] ?_;refine WC.cond rfl (fun c17 => ?_) (fun c17 => ?_)
    · try simp only [zq] at c17
      simp_all
    try simp only [zq] at c17
    refine g [[3],[5,6]] ?_;refine WP.ret1 rfl rfl rfl (RV.tmp rfl) (fun w hI => ⟨rfl, hI.keep⟩)
  try simp only [zq] at g11
  refine g [[12],[5,6]] ?_;refine WP.ret1 rfl rfl rfl (RV.tmp rfl) (fun w hI => ⟨rfl, hI.keep⟩)
theorem zvg (a b : Nat) (x : Stp) (h : Nat) (w : World) : z8 Tryz.prog 296 [.agg #[nt a, nt b], stpV x, nt h] w (it (flwI a b x h)) := by
  unfold z8;refine en Tryz.func296 rfl Tryz.ntmps296 zI (g [[1],[1,0,1,2]] ?_);refine WL.so (SO.box rfl rfl) rfl (zw fun b3 hb3 => ?_);refine WL.so (SO.box rfl rfl) rfl (zw fun b4 hb4 => ?_);refine g [[5],[4,6,4,3,2]] ?_;refine WL.part 9 rfl (fun g9 => ?_) (fun g9 => ?_)
  · refine g [[6]] ?_;refine WL.part 15 rfl (fun g15 => ?_) (fun g15 => ?_)
    · try simp only [zq] at g15
      refine g [[7]] ?_;refine WC.cond rfl (fun c20 => ?_) (fun c20 => ?_)
      · try simp only [zq] at c20
        refine g [[1],[6,6]] ?_;refine WP.ret1 rfl rfl rfl (RV.tmp rfl) (fun w hI => ⟨congrArg (fun i : Int => Ending.returned (it i)) (by unfold flwI; rw [if_pos (by simp_all)]), hI.keep⟩)
      try simp only [zq] at c20
      refine g [[3],[5,6]] ?_;refine WP.ret1 rfl rfl rfl (RV.tmp rfl) (fun w hI => ⟨congrArg (fun i : Int => Ending.returned (it i)) (by unfold flwI; rw [if_neg (by simp_all <;> omega)]), hI.keep⟩)
    try simp only [zq] at g15
    refine g [[11],[5,6]] ?_;refine WP.ret1 rfl rfl rfl (RV.tmp rfl) (fun w hI => ⟨congrArg (fun i : Int => Ending.returned (it i)) (by unfold flwI; rw [if_neg (by simp_all <;> omega)]), hI.keep⟩)
  refine g [[17],[5,6]] ?_;refine WP.ret1 rfl rfl rfl (RV.tmp rfl) (fun w hI => ⟨congrArg (fun i : Int => Ending.returned (it i)) (by unfold flwI; rw [if_neg (by simp_all <;> omega)]), hI.keep⟩)
def hiF (a b : Int) : Nat → Int
  | 0 => 0
  | 1 => a
  | _ => max a b
theorem zvr (a b : Int) : gt [a, b] 0 = a := rfl
theorem zvs (a b : Int) : gt [a, b] 1 = b := rfl
abbrev spV (s : Sp) : Value := .agg #[it s.lo, it s.hi]
def spaS (a b : Nat) (x : Stp) (h : Nat) (r : Sp) : Sp := ⟨wrI (r.lo + flwI a b x h), wrI (r.hi + flwI a b x h)⟩
def spaJ (a b : Sp) : Sp := ⟨min a.lo b.lo, max a.hi b.hi⟩
theorem zrE (a b : Int) (s : Option Addr) (c : Nat) (D : Imm) (hS : SlL D 1 ([a, b].map itC) s 2) (w : World) (hH : Holds D w) : z8 Tryz.prog 207 [.slice s 2 c] w (it (max a b)) := by
  unfold z8;refine en Tryz.func207 rfl Tryz.ntmps207 (Inv.start hH) (g [[1],[6,0],[7,2,0]] ?_);refine WC.loopF (fun k : Nat => [(2, it (hiF a b k)), (5, .slice s 2 c), (6, nt 2), (7, nt k)]) (fun k => k ≤ 2) (fun k => 2 - k) 0 (Nat.zero_le _) ⟨rfl, rfl, rfl, rfl, trivial⟩ ?_;intro k hk;refine g [[1],[5,2,5,6,7]] ?_;refine WC.cond rfl (fun c8 => ?_) (fun c8 => ?_)
  · try simp only [zq] at c8
    have hk2 : k < 2 := by omega
    refine g [[5],[2,2,5,6,7]] ?_;refine WL.yd (Yd.ix rfl rfl (hS.addr k (by simpa using hk2))) rfl ?_;refine WL.yd (Yd.l1 rfl ((hS.at k (by simpa using hk2)).rd 0 rfl)) rfl (g [[5],[4,4,3,2,5,6,7]] ?_);refine WL.part 14 rfl (fun g14 => ?_) (fun g14 => ?_)
    · try simp only [zq] at g14
      refine g [[7],[6,4,2,5,6,7],[4,2,5,6,7]] ?_;exact WP.againF (k + 1) (by omega) (by omega) ⟨by show some (it _) = some (it _); congr 2; rcases (show k = 0 ∨ k = 1 by omega) with rfl | rfl <;> simp_all [hiF, itC, zvr, zvs, Go.W.gt, List.getD] <;> omega, rfl, rfl, rfl, trivial⟩ (fun _ h => h) (fun h => h)
    try simp only [zq] at g14
    refine g [[6]] ?_;refine WC.cond rfl (fun c18 => ?_) (fun c18 => ?_)
    · try simp only [zq] at c18
      refine g [[6,4,2,5,6,7],[4,2,5,6,7]] ?_;exact WP.againF (k + 1) (by omega) (by omega) ⟨by show some (it _) = some (it _); congr 2; rcases (show k = 0 ∨ k = 1 by omega) with rfl | rfl <;> simp_all [hiF, itC, zvr, zvs, Go.W.gt, List.getD] <;> omega, rfl, rfl, rfl, trivial⟩ (fun _ h => h) (fun h => h)
    try simp only [zq] at c18
    refine g [[3],[4,2,5,6,7]] ?_;exact WP.againF (k + 1) (by omega) (by omega) ⟨by show some (it _) = some (it _); congr 2; rcases (show k = 0 ∨ k = 1 by omega) with rfl | rfl <;> simp_all [hiF, itC, zvr, zvs, Go.W.gt, List.getD] <;> omega, rfl, rfl, rfl, trivial⟩ (fun _ h => h) (fun h => h)
  try simp only [zq] at c8
  obtain rfl : k = 2 := by omega
  refine g [[6],[6,2]] ?_;refine WP.ret1 rfl rfl rfl (RV.tmp rfl) (fun w hI => ⟨rfl, hI.keep⟩)
theorem zwv (x : Stp) (h : Nat) (r : Int) (bt : Nat) (D : Imm) (hbt : D bt = some (.cells (List.toArray [.iface 282 (.agg #[it (-1), it 0])]) 326 (0, 0))) (w : World) (hH : Holds D w) : z8 Tryz.prog 202 [stpV x, nt h, it r, pt bt] w (it (wrI (r * 1))) := by
  unfold z8;refine en Tryz.func202 rfl Tryz.ntmps202 (Inv.start hH) (g [[1],[1,0,1,2,3]] ?_);refine WL.so (SO.box rfl rfl) rfl (zw fun b4 hb4 => ?_);refine g [[4],[5,7,4,1,2,3]] ?_;refine WL.so (SO.call (Enters.meth CaF.h (fun w => by kernel_rfl) rfl rfl) (fun w hI => zxU x h _)) rfl (zs ?_);refine WL.yd (Yd.mulW rfl rfl) rfl (g [[4]] ?_);refine WP.ret1 rfl rfl rfl (RV.tmp rfl) (fun w hI => ⟨rfl, hI.keep⟩)
theorem zww (a b : Int) (w : World) : z8 Tryz.prog 203 [it a, it b] w (it (wrI (a + b))) := by
  unfold z8;refine en Tryz.func203 rfl Tryz.ntmps203 zI (g [[1],[5,0,1],[3,4,0,1]] ?_);refine WL.yd (Yd.addW rfl rfl) rfl (g [[4]] ?_);refine WP.ret1 rfl rfl rfl (RV.tmp rfl) (fun w hI => ⟨rfl, hI.keep⟩)
theorem zwd (p q : Nat) (x : Stp) (h : Nat) (r : Sp) (bt : Nat) (D : Imm) (hbt : D bt = some (.cells (List.toArray [.iface 285 (.agg #[nt p, nt q])]) 326 (0, 0))) (w : World) (hH : Holds D w) : z8 Tryz.prog 205 [stpV x, nt h, spV r, pt bt] w (spV (spaS p q x h r)) := by
  unfold z8;refine en Tryz.func205 rfl Tryz.ntmps205 (Inv.start hH) (g [[1],[1,0,1,2,3]] ?_);refine WL.so (SO.box rfl rfl) rfl (zw fun b4 hb4 => ?_);refine WL.so (SO.box rfl rfl) rfl (zw fun b6 hb6 => ?_);refine WL.so (SO.alloc ZvF.h rfl) rfl (zw fun b7 hb7 => ?_);refine g [[3],[4,7,6,4,1,3]] ?_;refine WL.so (SO.call (Enters.meth CaF.h (fun w => by kernel_rfl) rfl rfl) (fun w hI => zvg p q x h _)) rfl (zs (g [[4],[4,8,7,6]] ?_));refine WL.yd (Yd.addW rfl rfl) rfl (g [[3]] ?_);refine WL.yd (Yd.addW rfl rfl) rfl (g [[5]] ?_);refine WP.ret1 rfl rfl rfl (RV.cellN AgF.h SzF.h rfl (vs := [_, _]) rfl (RdN.own (k := 0) (n := 2) rfl rfl)) (fun w hI => ⟨rfl, hI.keep⟩)
theorem zwe (a b : Sp) (w : World) : z8 Tryz.prog 206 [spV a, spV b] w (spV (spaJ a b)) := by
  unfold z8;refine en Tryz.func206 rfl Tryz.ntmps206 zI (g [[1],[1,0,1]] ?_);refine WL.so (SO.box rfl rfl) rfl (zw fun b2 hb2 => ?_);refine WL.so (SO.box rfl rfl) rfl (zw fun b3 hb3 => ?_);refine WL.so (SO.alloc ZvF.h rfl) rfl (zw fun b4 hb4 => ?_);refine g [[3],[0,4,3,2]] ?_;refine WC.drawO [_, _] (pz [1,3,5,7,9,11,13,15,17,18,20,23,24]) zk zk zX (fun _ hI => hI.drop 1) (g [[4]] ?_);refine WA.yd rfl (Yd.min2 rfl rfl) rfl (g [[4]] ?_);refine WA.so rfl (SO.buildSlice1 UnF.h SzF.h ZvF.h rfl rfl rfl (vs := [_, _]) rfl rfl rfl) rfl ?_;rintro _ _ _ ⟨b14, hb14, rfl, rfl, rfl⟩;refine ⟨fun _ hI => hI.drop 2, ?_⟩;refine WA.freezeN 0 b14 (.cells (List.toArray [it a.hi, it b.hi]) 3 (0, 0)) rfl rfl hb14 (fun D14 hX14 h14 => ?_);refine WA.so rfl (SO.callP CaF.h rfl (fun w hI => zrE a.hi b.hi _ _ D14 (SlL.ofBlock (l := [a.hi, b.hi]) (rest := []) zoV h14) _ hI.imm)) rfl (zs ⟨fun _ hI => (hI.drop 1).shrink (fun _ _ h => nomatch h), ?_⟩);refine g [[1]] ?_;refine WA.so rfl (SO.store 0 rfl SzF.h rfl rfl rfl rfl (zqb rfl) (za rfl)) rfl ?_;rintro _ _ _ ⟨rfl, rfl, rfl⟩;refine ⟨fun _ hI => (hI.drop 1).shrink (fun _ _ h => nomatch h), ?_⟩;refine g [[3]] ?_;refine WP.ret1 rfl rfl rfl (RV.cellN AgF.h SzF.h rfl (vs := [_, _]) rfl (RdN.own (k := 0) (n := 2) rfl rfl)) (fun w hI => ⟨rfl, hI.keep⟩)
theorem zyY : zj Tryz.prog 376 [.bool false, .int .i64 0, .int .i64 0] [(0, 2), (2, 1)] := ⟨⟨_, Tryz.zeroValue376, rfl⟩, _, Tryz.underlying376, fun w => by simp [Tryz.sizeOf3, Tryz.sizeOf329]⟩
abbrev zx5 := SaF.mk zyY
attribute [instance] zx5
theorem zyZ : zj Tryz.prog 378 [.int .i64 0, .bool false] [(0, 1), (1, 1)] := ⟨⟨_, Tryz.zeroValue378, rfl⟩, _, Tryz.underlying378, fun w => by simp [Tryz.sizeOf3, Tryz.sizeOf4]⟩
abbrev zx6 := SaF.mk zyZ
attribute [instance] zx6
theorem zz0 : zj Tryz.prog 385 [.bool false, .int .i64 0, .int .i64 0] [(0, 2), (2, 1)] := ⟨⟨_, Tryz.zeroValue385, rfl⟩, _, Tryz.underlying385, fun w => by simp [Tryz.sizeOf3, Tryz.sizeOf329]⟩
abbrev zx7 := SaF.mk zz0
attribute [instance] zx7
theorem zz1 : zj Tryz.prog 387 [.int .i64 0, .int .i64 0, .bool false] [(0, 2), (2, 1)] := ⟨⟨_, Tryz.zeroValue387, rfl⟩, _, Tryz.underlying387, fun w => by simp [Tryz.sizeOf4, Tryz.sizeOf81]⟩
abbrev zx8 := SaF.mk zz1
attribute [instance] zx8
def tolG {T : Type} (f : Flag) (e : T) (s : Stp → Nat → T → T) (j : T → T → T) (r h : Nat) (k : Option T) (x : Stp) : Option T := match tolF f e s j r x.to (h + 1) with
  | none => k
  | some y => match k with
    | none => some (s x h y)
    | some z => some (j z (s x h y))
def takT {T : Type} (f : Flag) (e : T) (s : Stp → Nat → T → T) (j : T → T → T) (r : Nat) (p : Pole) (h k : Nat) : Option T := ((stpL f p h).take k).foldl (tolG f e s j r h) none
section
variable {T : Type} {f : Flag} {e : T} {s : Stp → Nat → T → T} {j : T → T → T} {r : Nat} {p : Pole} {h k : Nat}
theorem zob : tolF f e s j (r + 1) p h = takT f e s j r p h (stpL f p h).length := by unfold takT; rw [List.take_length]; rfl
theorem zp6 (hk : k < (stpL f p h).length) : takT f e s j r p h (k + 1) = tolG f e s j r h (takT f e s j r p h k) (gt (stpL f p h) k) := by
  unfold takT; rw [zP hk, List.foldl_append]; rfl
theorem zqK (hk : k < (stpL f p h).length) (ho : (tolF f e s j r (gt (stpL f p h) k).to (h + 1)).isSome = false) : takT f e s j r p h (k + 1) = takT f e s j r p h k := by
  rw [zp6 hk];unfold tolG;cases hc : tolF f e s j r (gt (stpL f p h) k).to (h + 1) with
  | none => rfl
  | some y => rw [hc] at ho; cases ho
section
variable (z : T) (hk : k < (stpL f p h).length) (ho : (tolF f e s j r (gt (stpL f p h) k).to (h + 1)).isSome = true)
include z hk ho
theorem zpK (hn : (takT f e s j r p h k).isSome = false) : takT f e s j r p h (k + 1) = some (s (gt (stpL f p h) k) h ((tolF f e s j r (gt (stpL f p h) k).to (h + 1)).getD z)) := by
  rw [zp6 hk];unfold tolG;cases hc : tolF f e s j r (gt (stpL f p h) k).to (h + 1) with
  | none => rw [hc] at ho; cases ho
  | some y =>
    cases hd : takT f e s j r p h k with
    | none => rfl
    | some u => rw [hd] at hn; cases hn
theorem zqJ (hn : (takT f e s j r p h k).isSome = true) : takT f e s j r p h (k + 1) = some (j ((takT f e s j r p h k).getD z) (s (gt (stpL f p h) k) h ((tolF f e s j r (gt (stpL f p h) k).to (h + 1)).getD z))) := by
  rw [zp6 hk];unfold tolG;cases hc : tolF f e s j r (gt (stpL f p h) k).to (h + 1) with
  | none => rw [hc] at ho; cases ho
  | some y =>
    cases hd : takT f e s j r p h k with
    | none => rw [hd] at hn; cases hn
    | some u => rfl
end
end
theorem zuK {f : Flag} (hf : K5 f) {p : Pole} (hp : zqT f p) {h : Nat} : ∀ x ∈ stpL f p h, zqT f x.to := fun x hx => by
  obtain ⟨k, _, hk⟩ := List.mem_filterMap.1 hx;unfold stpO at hk;split at hk
  · cases hk
  split at hk
  · cases hk
  cases hk; exact zxY hf hp k
def KnwT {T : Type} (f : Flag) (e : T) (s : Stp → Nat → T → T) (j : T → T → T) (F : Pole × Nat → Option (Option T)) : Prop := ∀ x v, F x = some v → v = tolF f e s j (f.hours.length - x.2) x.1 x.2
section
variable {T : Type} {f : Flag} {e : T} {s : Stp → Nat → T → T} {j : T → T → T} {F : Pole × Nat → Option (Option T)} (hF : KnwT f e s j F)
include T f e s j F hF
theorem KnwT.put (x : Pole × Nat) {v : Option T} (hv : v = tolF f e s j (f.hours.length - x.2) x.1 x.2) : KnwT f e s j (putG F x v) := fun y u hy => by
  unfold putG at hy;split at hy
  · rename_i ex; subst ex; cases hy; exact hv
  exact hF y u hy
theorem zrM {x : Pole × Nat} (h : (F x).isSome = true) : (F x).getD none = tolF f e s j (f.hours.length - x.2) x.1 x.2 := by
  cases hc : F x with
  | none => rw [hc] at h; cases h
  | some v => exact hF x v hc
end
abbrev knCI (o : Option Int) : List Value := [it (o.getD 0), .bool o.isSome]
abbrev knVI (o : Option Int) : Value := .agg (knCI o).toArray
def EnvI (f : Flag) (m : zmF) (qb mb c1 c2 c3 c4 bt : Nat) (D : Imm) : Prop := D qb = some (fbO f m (kkF f f.hours.length) (seF f true f.seen.length) (seF f false f.seen.length)) ∧ D c1 = some (.cells (List.toArray [pt qb]) 174 (0, 0)) ∧ D c2 = some (.cells (List.toArray [it 1, .func (.func 202) #[] #[pt bt], .func (.func 203) #[] #[]]) 335 (0, 0)) ∧ D c3 = some (.cells (List.toArray [.map (some mb)]) 373 (0, 0)) ∧ D c4 = some (.cells (List.toArray [.func (.func 233) #[] #[pt c1, pt c2, pt c3, pt c4]]) 374 (0, 0)) ∧ D bt = some (.cells (List.toArray [.iface 282 (.agg #[it (-1), it 0])]) 326 (0, 0))
theorem EnvI.ext {w : World} {D D' : Imm} (hX : DExt w D D') {f : Flag} {m : zmF} {qb mb c1 c2 c3 c4 bt : Nat} (h : EnvI f m qb mb c1 c2 c3 c4 bt D) : EnvI f m qb mb c1 c2 c3 c4 bt D' := ⟨hX.old _ _ h.1, hX.old _ _ h.2.1, hX.old _ _ h.2.2.1, hX.old _ _ h.2.2.2.1, hX.old _ _ h.2.2.2.2.1, hX.old _ _ h.2.2.2.2.2⟩
def zxb (f : Flag) (mb : Nat) (hp : Hp) : Prop := ∃ es clock F, hp = [(mb, .map es clock)] ∧ MapG Tryz.prog 376 atV knVI es F ∧ KnwT f (1 : Int) (fun (_ : Stp) (_ : Nat) (r : Int) => wrI (r * 1)) (fun a b : Int => wrI (a + b)) F
def TolI (f : Flag) (m : zmF) (qb mb c1 c2 c3 c4 bt : Nat) (r : Nat) : Prop := ∀ (p : Pole) (h : Nat) (D : Imm) (w : World) (hp0 : Hp), zqT f p → h + r = f.hours.length → EnvI f m qb mb c1 c2 c3 c4 bt D → zxb f mb hp0 → Inv D hp0 [mb] w w → zp Tryz.prog 233 [atV (p, h), pt c1, pt c2, pt c3, pt c4] w D [mb] (fun v D' hp' => D = D' ∧ v = knVI (tolF f (1 : Int) (fun (_ : Stp) (_ : Nat) (r : Int) => wrI (r * 1)) (fun a b : Int => wrI (a + b)) r p h) ∧ zxb f mb hp')
theorem zsL (f : Flag) (m : zmF) (hok : K5 f) (hmh : m.h.n = f.hours.length) (qb mb c1 c2 c3 c4 bt : Nat) (r0 : Nat) (ih : ∀ r, r0 = r + 1 → TolI f m qb mb c1 c2 c3 c4 bt r) : TolI f m qb mb c1 c2 c3 c4 bt r0 := by
  obtain ⟨⟨ha, hn, hc⟩, ⟨sa, sn, sc⟩⟩ := m;obtain rfl : hn = f.hours.length := hmh;intro p h D w hp0 hp hr hE hMM hI0;obtain ⟨es, clock, F, rfl, hM, hF⟩ := hMM;obtain ⟨eq, e1, e2, e3, e4, hbt⟩ := id hE;have hnh := hok.nhours;have hq12 := hok.quiet;obtain ⟨lk, hkey⟩ := zvF (x := (p, h)) ⟨hp.c.1, by have := hp.c; show p.calm ≤ 100; omega⟩ ⟨by show (0 : Int) ≤ ((h : Nat) : Int); omega, by show ((h : Nat) : Int) ≤ 100; omega⟩;unfold zp;refine enM Tryz.func233 rfl Tryz.ntmps233 hI0 (g [[1],[1,0,1,2,3,4]] ?_);refine WL.so (SO.box rfl rfl) rfl (zw fun b5 hb5 => ?_);refine WL.so (SO.alloc ZvF.h rfl) rfl (zw fun b6 hb6 => ?_);refine g [[4],[0,6,5,1,2,3,4],[3008],[12]] ?_;refine WC.cond rfl (fun c21 => ?_) (fun c21 => ?_)
  · try simp only [zq] at c21
    obtain rfl : r0 = 0 := by omega
    refine g [[1],[9,6,5,1,2,3,4]] ?_;refine WP.retMs [] [_, _, _] [_] [_] rfl rfl (fun _ h => h) (fun h => h) rfl zV (fun w1 hI => ⟨_, D, [(mb, .map es clock)], rfl, DExt.refl _ _, hI.drop 2, rfl, rfl, es, clock, F, rfl, hM, hF⟩)
  try simp only [zq] at c21
  obtain ⟨r, rfl⟩ : ∃ r, r0 = r + 1 := ⟨r0 - 1, by omega⟩;refine g [[4],[3,6,5,1,2,3,4]] ?_;refine WL.yd (Yd.lookGOk (kv := atV) (vv := knVI) (y := (p, h)) zoJ atKI UnF.h ZvF.h rfl hkey rfl (j := 2) rfl hM) rfl ?_;refine WL.know 28 (.tuple #[knVI ((F (p, h)).getD none), .bool (F (p, h)).isSome]) rfl (by cases F (p, h) <;> rfl) (g [[3]] ?_);refine WL.so (SO.alloc ZvF.h rfl) rfl (zw fun b7 hb7 => ?_);refine g [[5],[4,8,7,6,5,1,2,3,4]] ?_;refine WC.cond rfl (fun c31 => ?_) (fun c31 => ?_)
  · refine g [[1],[7,7,6,5,1,2,3,4]] ?_;refine WP.retMs [] [_, _, _, _] [_] [_] rfl rfl (fun _ h => h) (fun h => h) rfl zV (fun w1 hI => ⟨_, D, [(mb, .map es clock)], rfl, DExt.refl _ _, hI.drop 3, rfl, congrArg knVI ((zrM hF (x := (p, h)) (by assumption)).trans (by rw [show f.hours.length - h = r + 1 by omega])), es, clock, F, rfl, hM, hF⟩)
  refine g [[3],[1,6,5,1,2,3,4]] ?_;refine WL.so (SO.alloc ZvF.h rfl) rfl (zw fun b9 hb9 => ?_);refine g [[4],[6,9,6,5,1,2,3,4]] ?_;refine WL.so (SO.makes (Enters.func Tryz.call234 rfl) (fun w1 hI => zsy qb p h D w1 hI.imm)) rfl ?_;rintro _ D1 _ ⟨hX1, ⟨bs, bh, bp, rfl, hbs, hbh, hbp⟩, rfl⟩;have eq1 := hX1.old _ _ eq;refine g [[3],[0,1,2,3,4,5,6,9,38]] ?_;refine WC.hpEq (hp' := [(b9, .cells (List.toArray (knCI none)) 378 (0, 0)), (b7, .cells (List.toArray (knCI ((F (p, h)).getD none))) 378 (0, 0)), (b6, .cells (List.toArray (knCI none)) 378 (0, 0)), (b5, .cells (List.toArray (atC (p, h))) 376 (0, 0)), (mb, .map es clock)]) rfl ?_;refine WC.rangeIterN (N := (stpL f p h).length) (arg := fun k => stpV (gt (stpL f p h) k)) (fun w2 _ hD1 => zoF f ⟨⟨ha, f.hours.length, hc⟩, ⟨sa, sn, sc⟩⟩ hok p h (by omega) qb bs bh bp D1 eq1 hbs hbh hbp w2) rfl Tryz.call255 rfl (fun k _ h' => ∃ es cl G, h' = [(b9, .cells (List.toArray (knCI (takT f (1 : Int) (fun (_ : Stp) (_ : Nat) (r : Int) => wrI (r * 1)) (fun a b : Int => wrI (a + b)) r p h k))) 378 (0, 0)), (b7, .cells (List.toArray (knCI ((F (p, h)).getD none))) 378 (0, 0)), (b6, .cells (List.toArray (knCI none)) 378 (0, 0)), (b5, .cells (List.toArray (atC (p, h))) 376 (0, 0)), (mb, .map es cl)] ∧ MapG Tryz.prog 376 atV knVI es G ∧ KnwT f (1 : Int) (fun (_ : Stp) (_ : Nat) (r : Int) => wrI (r * 1)) (fun a b : Int => wrI (a + b)) G) (fun _ _ _ => False) (fun _ _ _ _ _ h => h) ⟨es, clock, F, rfl, hM, hF⟩ ?_ ?_ ?_
  · rintro rec1 l1 Dn0 k D5 _ w1 hrec hk ⟨es5, cl5, F5, rfl, hM5, hF5⟩ hX5 hsz;unfold yP;have hE5 := (hE.ext hX1).ext hX5;obtain ⟨eq5, e15, e25, e35, e45, hbt5⟩ := id hE5;refine g [[1,39,2,4,5,6,9]] ?_;refine WLF.so (zn rfl) (SO.alloc ZvF.h rfl) rfl (zw fun b10 hb10 => ?_);refine g [[2]] ?_;refine WP.iterBegin 1 rfl hrec (g [[2],[6,10,2,4,5,6,9]] ?_);refine WLF.yd (zn rfl) (Yd.addN (i := h) (j := 1) rfl rfl (by omega)) rfl (g [[1]] ?_);refine WLF.so (zn rfl) (SO.altersN (own := [_, _, _, _, _, _, _]) (hpc := [(mb, .map es5 cl5)]) (fun _ h => h) (fun h => h) (fun _ h => h) (fun _ h => h) (Enters.val CaF.h rfl rfl) (fun w2 hI => ih r rfl (gt (stpL f p h) k).to (h + 1) D5 w2 _ (zuK hok hp _ (yE hk)) (by omega) hE5 ⟨es5, cl5, F5, rfl, hM5, hF5⟩ hI)) rfl ?_;rintro _ _ _ ⟨hp3, _, ⟨rfl, rfl, es3, cl3, F3, rfl, hM3, hF3⟩, rfl⟩;refine WLF.so (zn rfl) (SO.alloc ZvF.h rfl) rfl (zw fun b11 hb11 => ?_);refine g [[5],[6,11,10,2,5,6,9]] ?_;refine WCF.cond rfl (fun c50 => ?_) (fun c50 => ?_)
    · try simp only [zq] at c50
      refine g [[3]] ?_;exact WP.iterOnN hrec (h1 := [(b9, .cells (List.toArray (knCI (takT f (1 : Int) (fun (_ : Stp) (_ : Nat) (r : Int) => wrI (r * 1)) (fun a b : Int => wrI (a + b)) r p h k))) 378 (0, 0)), (b7, .cells (List.toArray (knCI ((F (p, h)).getD none))) 378 (0, 0)), (b6, .cells (List.toArray (knCI none)) 378 (0, 0)), (b5, .cells (List.toArray (atC (p, h))) 376 (0, 0)), (mb, .map es3 cl3)]) zU1 zU2 (DExt.refl _ _) ⟨es3, cl3, F3, by rw [zqK hk (by assumption)], hM3, hF3⟩
    try simp only [zq] at c50
    refine g [[3],[8,11,10,2,5,6,9]] ?_;refine WLF.so (zn rfl) (SO.call (Enters.val CaF.h rfl rfl) (fun w hI => zwv (gt (stpL f p h) k) h ((tolF f (1 : Int) (fun (_ : Stp) (_ : Nat) (r : Int) => wrI (r * 1)) (fun a b : Int => wrI (a + b)) r (gt (stpL f p h) k).to (h + 1)).getD (0 : Int)) bt D5 hbt5 _ hI.imm)) rfl (zs (g [[5],[5,12,2,6,9]] ?_));refine WCF.cond rfl (fun c60 => ?_) (fun c60 => ?_)
    · refine g [[6,12,2,6,9]] ?_;refine WLF.so (zn rfl) (SO.call (Enters.val CaF.h rfl rfl) (fun w hI => zww ((takT f (1 : Int) (fun (_ : Stp) (_ : Nat) (r : Int) => wrI (r * 1)) (fun a b : Int => wrI (a + b)) r p h k).getD (0 : Int)) ((fun (_ : Stp) (_ : Nat) (r : Int) => wrI (r * 1)) (gt (stpL f p h) k) h ((tolF f (1 : Int) (fun (_ : Stp) (_ : Nat) (r : Int) => wrI (r * 1)) (fun a b : Int => wrI (a + b)) r (gt (stpL f p h) k).to (h + 1)).getD (0 : Int))) _)) rfl (zs (g [[3],[6,12,6,9]] ?_));exact WP.iterOnN hrec (h1 := [(b9, _), (b7, .cells (List.toArray (knCI ((F (p, h)).getD none))) 378 (0, 0)), (b6, .cells (List.toArray (knCI none)) 378 (0, 0)), (b5, .cells (List.toArray (atC (p, h))) 376 (0, 0)), (mb, .map es3 cl3)]) zU1 zU2 (DExt.refl _ _) ⟨es3, cl3, F3, by rw [zqJ (0 : Int) hk (by assumption) (by assumption)]; rfl, hM3, hF3⟩
    refine g [[2],[6,12,6,9]] ?_;exact WP.iterOnN hrec (h1 := [(b9, _), (b7, .cells (List.toArray (knCI ((F (p, h)).getD none))) 378 (0, 0)), (b6, .cells (List.toArray (knCI none)) 378 (0, 0)), (b5, .cells (List.toArray (atC (p, h))) 376 (0, 0)), (mb, .map es3 cl3)]) zU1 zU2 (DExt.refl _ _) ⟨es3, cl3, F3, by rw [zpK (0 : Int) hk (by assumption) (by assumption)]; rfl, hM3, hF3⟩
  · rintro Dn1 D6 _ hDn1 hX6 ⟨es6, cl6, F6, rfl, hM6, hF6⟩;have e36 := hX6.old _ _ (hX1.old _ _ e3);refine g [[3],[4,3,5,6,9]] ?_;refine WL.so (SO.putG (kv := atV) (vv := knVI) (y := (p, h)) (u := (takT f (1 : Int) (fun (_ : Stp) (_ : Nat) (r : Int) => wrI (r * 1)) (fun a b : Int => wrI (a + b)) r p h (stpL f p h).length)) zoJ atKI UnF.h rfl hkey rfl rfl (j := 5) rfl hM6) rfl ?_;rintro _ _ _ ⟨rfl, es1, clock1, rfl, hM1⟩;refine g [[3],[6,6,9]] ?_;refine WP.retMs [Dn1] [_, _, _, _, _] [_] [_] rfl rfl zU1 zU2 rfl zV (fun w1 hI => ⟨_, D, [(mb, .map es1 clock1)], rfl, DExt.refl _ _, (hI.drop 4).shrink (fun _ _ h => hX6.old _ _ (hX1.old _ _ h)), rfl, by rw [zob]; rfl, es1, clock1, _, rfl, hM1, hF6.put (p, h) (by rw [show f.hours.length - h = r + 1 by omega, zob])⟩)
  exact fun _ _ _ _ _ _ h => h.elim
theorem zuL (f : Flag) (m : zmF) (hok : K5 f) (hmh : m.h.n = f.hours.length) (qb mb c1 c2 c3 c4 bt : Nat) : ∀ r, TolI f m qb mb c1 c2 c3 c4 bt r
  | 0 => zsL f m hok hmh qb mb c1 c2 c3 c4 bt 0 (fun r h => by omega)
  | r + 1 => zsL f m hok hmh qb mb c1 c2 c3 c4 bt (r + 1) (fun r' h => (Nat.succ.inj h) ▸ zuL f m hok hmh qb mb c1 c2 c3 c4 bt r)
abbrev knCS (o : Option Sp) : List Value := [it (o.getD ⟨0, 0⟩).lo, it (o.getD ⟨0, 0⟩).hi, .bool o.isSome]
abbrev knVS (o : Option Sp) : Value := .agg (knCS o).toArray
def EnvS (f : Flag) (m : zmF) (qb mb c1 c2 c3 c4 bt : Nat) (p0 q0 : Nat) (D : Imm) : Prop := D qb = some (fbO f m (kkF f f.hours.length) (seF f true f.seen.length) (seF f false f.seen.length)) ∧ D c1 = some (.cells (List.toArray [pt qb]) 174 (0, 0)) ∧ D c2 = some (.cells (List.toArray [it 0, it 0, .func (.func 205) #[] #[pt bt], .func (.func 206) #[] #[]]) 342 (0, 0)) ∧ D c3 = some (.cells (List.toArray [.map (some mb)]) 383 (0, 0)) ∧ D c4 = some (.cells (List.toArray [.func (.func 235) #[] #[pt c1, pt c2, pt c3, pt c4]]) 384 (0, 0)) ∧ D bt = some (.cells (List.toArray [.iface 285 (.agg #[nt p0, nt q0])]) 326 (0, 0))
theorem EnvS.ext {w : World} {D D' : Imm} (hX : DExt w D D') {f : Flag} {m : zmF} {qb mb c1 c2 c3 c4 bt p0 q0 : Nat} (h : EnvS f m qb mb c1 c2 c3 c4 bt p0 q0 D) : EnvS f m qb mb c1 c2 c3 c4 bt p0 q0 D' := ⟨hX.old _ _ h.1, hX.old _ _ h.2.1, hX.old _ _ h.2.2.1, hX.old _ _ h.2.2.2.1, hX.old _ _ h.2.2.2.2.1, hX.old _ _ h.2.2.2.2.2⟩
def zxc (f : Flag) (p0 q0 : Nat) (mb : Nat) (hp : Hp) : Prop := ∃ es clock F, hp = [(mb, .map es clock)] ∧ MapG Tryz.prog 385 atV knVS es F ∧ KnwT f (⟨0, 0⟩ : Sp) (spaS p0 q0) spaJ F
def TolS (f : Flag) (m : zmF) (qb mb c1 c2 c3 c4 bt : Nat) (p0 q0 : Nat) (r : Nat) : Prop := ∀ (p : Pole) (h : Nat) (D : Imm) (w : World) (hp0 : Hp), zqT f p → h + r = f.hours.length → EnvS f m qb mb c1 c2 c3 c4 bt p0 q0 D → zxc f p0 q0 mb hp0 → Inv D hp0 [mb] w w → zp Tryz.prog 235 [atV (p, h), pt c1, pt c2, pt c3, pt c4] w D [mb] (fun v D' hp' => D = D' ∧ v = knVS (tolF f (⟨0, 0⟩ : Sp) (spaS p0 q0) spaJ r p h) ∧ zxc f p0 q0 mb hp')
theorem zsM (f : Flag) (m : zmF) (hok : K5 f) (hmh : m.h.n = f.hours.length) (qb mb c1 c2 c3 c4 bt : Nat) (p0 q0 : Nat) (r0 : Nat) (ih : ∀ r, r0 = r + 1 → TolS f m qb mb c1 c2 c3 c4 bt p0 q0 r) : TolS f m qb mb c1 c2 c3 c4 bt p0 q0 r0 := by
  obtain ⟨⟨ha, hn, hc⟩, ⟨sa, sn, sc⟩⟩ := m;obtain rfl : hn = f.hours.length := hmh;intro p h D w hp0 hp hr hE hMM hI0;obtain ⟨es, clock, F, rfl, hM, hF⟩ := hMM;obtain ⟨eq, e1, e2, e3, e4, hbt⟩ := id hE;have hnh := hok.nhours;have hq12 := hok.quiet;obtain ⟨lk, hkey⟩ := zvG (x := (p, h)) ⟨hp.c.1, by have := hp.c; show p.calm ≤ 100; omega⟩ ⟨by show (0 : Int) ≤ ((h : Nat) : Int); omega, by show ((h : Nat) : Int) ≤ 100; omega⟩;unfold zp;refine enM Tryz.func235 rfl Tryz.ntmps235 hI0 (g [[1],[1,0,1,2,3,4]] ?_);refine WL.so (SO.box rfl rfl) rfl (zw fun b5 hb5 => ?_);refine WL.so (SO.alloc ZvF.h rfl) rfl (zw fun b6 hb6 => ?_);refine g [[4],[0,6,5,1,2,3,4],[3008],[12]] ?_;refine WC.cond rfl (fun c21 => ?_) (fun c21 => ?_)
  · try simp only [zq] at c21
    obtain rfl : r0 = 0 := by omega
    refine g [[1],[9,6,5,1,2,3,4]] ?_;refine WP.retMs [] [_, _, _] [_] [_] rfl rfl (fun _ h => h) (fun h => h) rfl zV (fun w1 hI => ⟨_, D, [(mb, .map es clock)], rfl, DExt.refl _ _, hI.drop 2, rfl, rfl, es, clock, F, rfl, hM, hF⟩)
  try simp only [zq] at c21
  obtain ⟨r, rfl⟩ : ∃ r, r0 = r + 1 := ⟨r0 - 1, by omega⟩;refine g [[4],[3,6,5,1,2,3,4]] ?_;refine WL.yd (Yd.lookGOk (kv := atV) (vv := knVS) (y := (p, h)) zoJ atKS UnF.h ZvF.h rfl hkey rfl (j := 2) rfl hM) rfl ?_;refine WL.know 28 (.tuple #[knVS ((F (p, h)).getD none), .bool (F (p, h)).isSome]) rfl (by cases F (p, h) <;> rfl) (g [[3]] ?_);refine WL.so (SO.alloc ZvF.h rfl) rfl (zw fun b7 hb7 => ?_);refine g [[5],[4,8,7,6,5,1,2,3,4]] ?_;refine WC.cond rfl (fun c31 => ?_) (fun c31 => ?_)
  · refine g [[1],[7,7,6,5,1,2,3,4]] ?_;refine WP.retMs [] [_, _, _, _] [_] [_] rfl rfl (fun _ h => h) (fun h => h) rfl zV (fun w1 hI => ⟨_, D, [(mb, .map es clock)], rfl, DExt.refl _ _, hI.drop 3, rfl, congrArg knVS ((zrM hF (x := (p, h)) (by assumption)).trans (by rw [show f.hours.length - h = r + 1 by omega])), es, clock, F, rfl, hM, hF⟩)
  refine g [[3],[1,6,5,1,2,3,4]] ?_;refine WL.so (SO.alloc ZvF.h rfl) rfl (zw fun b9 hb9 => ?_);refine g [[4],[6,9,6,5,1,2,3,4]] ?_;refine WL.so (SO.makes (Enters.func Tryz.call234 rfl) (fun w1 hI => zsy qb p h D w1 hI.imm)) rfl ?_;rintro _ D1 _ ⟨hX1, ⟨bs, bh, bp, rfl, hbs, hbh, hbp⟩, rfl⟩;have eq1 := hX1.old _ _ eq;refine g [[3],[0,1,2,3,4,5,6,9,38]] ?_;refine WC.hpEq (hp' := [(b9, .cells (List.toArray (knCS none)) 387 (0, 0)), (b7, .cells (List.toArray (knCS ((F (p, h)).getD none))) 387 (0, 0)), (b6, .cells (List.toArray (knCS none)) 387 (0, 0)), (b5, .cells (List.toArray (atC (p, h))) 385 (0, 0)), (mb, .map es clock)]) rfl ?_;refine WC.rangeIterN (N := (stpL f p h).length) (arg := fun k => stpV (gt (stpL f p h) k)) (fun w2 _ hD1 => zoF f ⟨⟨ha, f.hours.length, hc⟩, ⟨sa, sn, sc⟩⟩ hok p h (by omega) qb bs bh bp D1 eq1 hbs hbh hbp w2) rfl Tryz.call255 rfl (fun k _ h' => ∃ es cl G, h' = [(b9, .cells (List.toArray (knCS (takT f (⟨0, 0⟩ : Sp) (spaS p0 q0) spaJ r p h k))) 387 (0, 0)), (b7, .cells (List.toArray (knCS ((F (p, h)).getD none))) 387 (0, 0)), (b6, .cells (List.toArray (knCS none)) 387 (0, 0)), (b5, .cells (List.toArray (atC (p, h))) 385 (0, 0)), (mb, .map es cl)] ∧ MapG Tryz.prog 385 atV knVS es G ∧ KnwT f (⟨0, 0⟩ : Sp) (spaS p0 q0) spaJ G) (fun _ _ _ => False) (fun _ _ _ _ _ h => h) ⟨es, clock, F, rfl, hM, hF⟩ ?_ ?_ ?_
  · rintro rec1 l1 Dn0 k D5 _ w1 hrec hk ⟨es5, cl5, F5, rfl, hM5, hF5⟩ hX5 hsz;unfold yP;have hE5 := (hE.ext hX1).ext hX5;obtain ⟨eq5, e15, e25, e35, e45, hbt5⟩ := id hE5;refine g [[1,39,2,4,5,6,9]] ?_;refine WLF.so (zn rfl) (SO.alloc ZvF.h rfl) rfl (zw fun b10 hb10 => ?_);refine g [[2]] ?_;refine WP.iterBegin 1 rfl hrec (g [[2],[6,10,2,4,5,6,9]] ?_);refine WLF.yd (zn rfl) (Yd.addN (i := h) (j := 1) rfl rfl (by omega)) rfl (g [[1]] ?_);refine WLF.so (zn rfl) (SO.altersN (own := [_, _, _, _, _, _, _]) (hpc := [(mb, .map es5 cl5)]) (fun _ h => h) (fun h => h) (fun _ h => h) (fun _ h => h) (Enters.val CaF.h rfl rfl) (fun w2 hI => ih r rfl (gt (stpL f p h) k).to (h + 1) D5 w2 _ (zuK hok hp _ (yE hk)) (by omega) hE5 ⟨es5, cl5, F5, rfl, hM5, hF5⟩ hI)) rfl ?_;rintro _ _ _ ⟨hp3, _, ⟨rfl, rfl, es3, cl3, F3, rfl, hM3, hF3⟩, rfl⟩;refine WLF.so (zn rfl) (SO.alloc ZvF.h rfl) rfl (zw fun b11 hb11 => ?_);refine g [[5],[6,11,10,2,5,6,9]] ?_;refine WCF.cond rfl (fun c50 => ?_) (fun c50 => ?_)
    · try simp only [zq] at c50
      refine g [[3]] ?_;exact WP.iterOnN hrec (h1 := [(b9, .cells (List.toArray (knCS (takT f (⟨0, 0⟩ : Sp) (spaS p0 q0) spaJ r p h k))) 387 (0, 0)), (b7, .cells (List.toArray (knCS ((F (p, h)).getD none))) 387 (0, 0)), (b6, .cells (List.toArray (knCS none)) 387 (0, 0)), (b5, .cells (List.toArray (atC (p, h))) 385 (0, 0)), (mb, .map es3 cl3)]) zU1 zU2 (DExt.refl _ _) ⟨es3, cl3, F3, by rw [zqK hk (by assumption)], hM3, hF3⟩
    try simp only [zq] at c50
    refine g [[3],[8,11,10,2,5,6,9]] ?_;refine WLF.so (zn rfl) (SO.call (Enters.val CaF.h rfl rfl) (fun w hI => zwd p0 q0 (gt (stpL f p h) k) h ((tolF f (⟨0, 0⟩ : Sp) (spaS p0 q0) spaJ r (gt (stpL f p h) k).to (h + 1)).getD (⟨0, 0⟩ : Sp)) bt D5 hbt5 _ hI.imm)) rfl (zs ?_);refine WLF.so (zn rfl) (SO.alloc ZvF.h rfl) rfl (zw fun b12 hb12 => ?_);refine g [[5],[5,12,2,6,9]] ?_;refine WCF.cond rfl (fun c60 => ?_) (fun c60 => ?_)
    · refine g [[6,12,2,6,9]] ?_;refine WLF.so (zn rfl) (SO.call (Enters.val CaF.h rfl rfl) (fun w hI => zwe ((takT f (⟨0, 0⟩ : Sp) (spaS p0 q0) spaJ r p h k).getD (⟨0, 0⟩ : Sp)) ((spaS p0 q0) (gt (stpL f p h) k) h ((tolF f (⟨0, 0⟩ : Sp) (spaS p0 q0) spaJ r (gt (stpL f p h) k).to (h + 1)).getD (⟨0, 0⟩ : Sp))) _)) rfl (zs (g [[3],[6,12,6,9]] ?_));exact WP.iterOnN hrec (h1 := [(b9, _), (b7, .cells (List.toArray (knCS ((F (p, h)).getD none))) 387 (0, 0)), (b6, .cells (List.toArray (knCS none)) 387 (0, 0)), (b5, .cells (List.toArray (atC (p, h))) 385 (0, 0)), (mb, .map es3 cl3)]) zU1 zU2 (DExt.refl _ _) ⟨es3, cl3, F3, by rw [zqJ (⟨0, 0⟩ : Sp) hk (by assumption) (by assumption)]; rfl, hM3, hF3⟩
    refine g [[2],[6,12,6,9]] ?_;exact WP.iterOnN hrec (h1 := [(b9, _), (b7, .cells (List.toArray (knCS ((F (p, h)).getD none))) 387 (0, 0)), (b6, .cells (List.toArray (knCS none)) 387 (0, 0)), (b5, .cells (List.toArray (atC (p, h))) 385 (0, 0)), (mb, .map es3 cl3)]) zU1 zU2 (DExt.refl _ _) ⟨es3, cl3, F3, by rw [zpK (⟨0, 0⟩ : Sp) hk (by assumption) (by assumption)]; rfl, hM3, hF3⟩
  · rintro Dn1 D6 _ hDn1 hX6 ⟨es6, cl6, F6, rfl, hM6, hF6⟩;have e36 := hX6.old _ _ (hX1.old _ _ e3);refine g [[3],[4,3,5,6,9]] ?_;refine WL.so (SO.putG (kv := atV) (vv := knVS) (y := (p, h)) (u := (takT f (⟨0, 0⟩ : Sp) (spaS p0 q0) spaJ r p h (stpL f p h).length)) zoJ atKS UnF.h rfl hkey rfl rfl (j := 5) rfl hM6) rfl ?_;rintro _ _ _ ⟨rfl, es1, clock1, rfl, hM1⟩;refine g [[3],[6,6,9]] ?_;refine WP.retMs [Dn1] [_, _, _, _, _] [_] [_] rfl rfl zU1 zU2 rfl zV (fun w1 hI => ⟨_, D, [(mb, .map es1 clock1)], rfl, DExt.refl _ _, (hI.drop 4).shrink (fun _ _ h => hX6.old _ _ (hX1.old _ _ h)), rfl, by rw [zob]; rfl, es1, clock1, _, rfl, hM1, hF6.put (p, h) (by rw [show f.hours.length - h = r + 1 by omega, zob])⟩)
  exact fun _ _ _ _ _ _ h => h.elim
theorem zuM (f : Flag) (m : zmF) (hok : K5 f) (hmh : m.h.n = f.hours.length) (qb mb c1 c2 c3 c4 bt : Nat) (p0 q0 : Nat) : ∀ r, TolS f m qb mb c1 c2 c3 c4 bt p0 q0 r
  | 0 => zsM f m hok hmh qb mb c1 c2 c3 c4 bt p0 q0 0 (fun r h => by omega)
  | r + 1 => zsM f m hok hmh qb mb c1 c2 c3 c4 bt p0 q0 (r + 1) (fun r' h => (Nat.succ.inj h) ▸ zuM f m hok hmh qb mb c1 c2 c3 c4 bt p0 q0 r)
section
variable (f : Flag) (m : zmF) (hok : K5 f) (hmh : m.h.n = f.hours.length) (qb bt : Nat)
include f m hok hmh qb bt
theorem zwq (D : Imm) (hq : D qb = some (fbO f m (kkF f f.hours.length) (seF f true f.seen.length) (seF f false f.seen.length))) (hbt : D bt = some (.cells (List.toArray [.iface 282 (.agg #[it (-1), it 0])]) 326 (0, 0))) (w : World) (hH : Holds D w) : z8 Tryz.prog 201 [pt qb, (.agg #[it 1, .func (.func 202) #[] #[pt bt], .func (.func 203) #[] #[]])] w (.tuple #[it ((tolF f (1 : Int) (fun (_ : Stp) (_ : Nat) (r : Int) => wrI (r * 1)) (fun a b : Int => wrI (a + b)) f.hours.length ⟨false, 0⟩ 0).getD 0), .bool (tolF f (1 : Int) (fun (_ : Stp) (_ : Nat) (r : Int) => wrI (r * 1)) (fun a b : Int => wrI (a + b)) f.hours.length ⟨false, 0⟩ 0).isSome]) := by
  unfold z8;refine en Tryz.func201 rfl Tryz.ntmps201 (Inv.start hH) (g [[1],[1,0,1]] ?_);refine WL.so (SO.box rfl rfl) rfl (zw fun b2 hb2 => ?_);refine WL.so (SO.box rfl rfl) rfl (zw fun b3 hb3 => ?_);refine g [[5],[1,5,4,3,2]] ?_;refine WL.so SO.makeMap rfl ?_;rintro _ _ _ ⟨b9, hb9, rfl, rfl, rfl⟩;refine WL.so (SO.alloc ZvF.h rfl) rfl (zw fun b6 hb6 => ?_);refine g [[4],[1,6,5,4,3,2]] ?_;refine WL.so (SO.alloc ZvF.h rfl) rfl (zw fun b7 hb7 => ?_);refine g [[3],[6,7,6,5,4,3,2]] ?_;refine WC.freezeN 0 b7 (.cells (List.toArray [.func (.func 233) #[] #[pt b2, pt b3, pt b6, pt b7]]) 374 (0, 0)) rfl rfl hb7 (fun D7 hX7 h7 => ?_);refine WC.freezeN 0 b6 (.cells (List.toArray [.map (some b9)]) 373 (0, 0)) rfl rfl hb6 (fun D6 hX6 h6 => ?_);refine WC.freezeN 1 b3 (.cells (List.toArray [it 1, .func (.func 202) #[] #[pt bt], .func (.func 203) #[] #[]]) 335 (0, 0)) rfl rfl hb3 (fun D3 hX3 h3 => ?_);refine WC.freezeN 1 b2 (.cells (List.toArray [pt qb]) 174 (0, 0)) rfl rfl hb2 (fun D2 hX2 h2 => ?_);replace h3 := hX2.old _ _ h3;replace h6 := hX2.old _ _ (hX3.old _ _ h6);replace h7 := hX2.old _ _ (hX3.old _ _ (hX6.old _ _ h7));have hXX := ((hX7.trans hX6 (Nat.le_refl _)).trans hX3 (Nat.le_refl _)).trans hX2 (Nat.le_refl _);refine g [[3,7,5,4]] ?_;refine WL.so (SO.altersNP (own := []) (hpc := [(b9, .map #[] 0)]) (S1 := [b9]) (List.Perm.refl _) (fun _ h => h) (fun _ h => h) (Enters.val CaF.h rfl rfl) (fun w1 hI => zuL f m hok hmh qb b9 b2 b3 b6 b7 bt f.hours.length ⟨false, 0⟩ 0 D2 w1 _ ⟨by show (0 : Int) ≤ 0 ∧ (0 : Int) < f.quiet; have := hok.quiet; omega⟩ (by omega) ⟨hXX.old _ _ hq, h2, h3, h6, h7, hXX.old _ _ hbt⟩ ⟨_, _, _, rfl, MapG.empty, fun _ _ h => nomatch h⟩ hI)) rfl ?_;rintro _ _ _ ⟨hp3, _, ⟨rfl, rfl, es3, cl3, F3, rfl, hM3, hF3⟩, rfl⟩;refine WL.so (SO.alloc ZvF.h rfl) rfl (zw fun b8 hb8 => ?_);refine g [[4],[0,8,5,4],[3005],[10]] ?_;refine WP.ret2 rfl rfl rfl (RV.tmp rfl) (RV.tmp rfl) (fun w1 hI => ⟨rfl, hI.keep⟩)
theorem zwr (p0 q0 : Nat) (D : Imm) (hq : D qb = some (fbO f m (kkF f f.hours.length) (seF f true f.seen.length) (seF f false f.seen.length))) (hbt : D bt = some (.cells (List.toArray [.iface 285 (.agg #[nt p0, nt q0])]) 326 (0, 0))) (w : World) (hH : Holds D w) : z8 Tryz.prog 204 [pt qb, (.agg #[it 0, it 0, .func (.func 205) #[] #[pt bt], .func (.func 206) #[] #[]])] w (.tuple #[spV ((tolF f (⟨0, 0⟩ : Sp) (spaS p0 q0) spaJ f.hours.length ⟨false, 0⟩ 0).getD ⟨0, 0⟩), .bool (tolF f (⟨0, 0⟩ : Sp) (spaS p0 q0) spaJ f.hours.length ⟨false, 0⟩ 0).isSome]) := by
  unfold z8;refine en Tryz.func204 rfl Tryz.ntmps204 (Inv.start hH) (g [[1],[1,0,1]] ?_);refine WL.so (SO.box rfl rfl) rfl (zw fun b2 hb2 => ?_);refine WL.so (SO.box rfl rfl) rfl (zw fun b3 hb3 => ?_);refine WL.so (SO.alloc ZvF.h rfl) rfl (zw fun b4 hb4 => ?_);refine g [[4],[1,5,4,3,2]] ?_;refine WL.so SO.makeMap rfl ?_;rintro _ _ _ ⟨b9, hb9, rfl, rfl, rfl⟩;refine WL.so (SO.alloc ZvF.h rfl) rfl (zw fun b6 hb6 => ?_);refine g [[4],[1,6,5,4,3,2]] ?_;refine WL.so (SO.alloc ZvF.h rfl) rfl (zw fun b7 hb7 => ?_);refine g [[3],[6,7,6,5,4,3,2]] ?_;refine WC.freezeN 0 b7 (.cells (List.toArray [.func (.func 235) #[] #[pt b2, pt b3, pt b6, pt b7]]) 384 (0, 0)) rfl rfl hb7 (fun D7 hX7 h7 => ?_);refine WC.freezeN 0 b6 (.cells (List.toArray [.map (some b9)]) 383 (0, 0)) rfl rfl hb6 (fun D6 hX6 h6 => ?_);refine WC.freezeN 2 b3 (.cells (List.toArray [it 0, it 0, .func (.func 205) #[] #[pt bt], .func (.func 206) #[] #[]]) 342 (0, 0)) rfl rfl hb3 (fun D3 hX3 h3 => ?_);refine WC.freezeN 2 b2 (.cells (List.toArray [pt qb]) 174 (0, 0)) rfl rfl hb2 (fun D2 hX2 h2 => ?_);replace h3 := hX2.old _ _ h3;replace h6 := hX2.old _ _ (hX3.old _ _ h6);replace h7 := hX2.old _ _ (hX3.old _ _ (hX6.old _ _ h7));have hXX := ((hX7.trans hX6 (Nat.le_refl _)).trans hX3 (Nat.le_refl _)).trans hX2 (Nat.le_refl _);refine g [[3,7,5,4]] ?_;refine WL.so (SO.altersNP (own := [_]) (hpc := [(b9, .map #[] 0)]) (S1 := [b9]) (List.perm_append_comm (l₁ := [_]) (l₂ := [_])) (fun _ h => h) (fun _ h => h) (Enters.val CaF.h rfl rfl) (fun w1 hI => zuM f m hok hmh qb b9 b2 b3 b6 b7 bt p0 q0 f.hours.length ⟨false, 0⟩ 0 D2 w1 _ ⟨by show (0 : Int) ≤ 0 ∧ (0 : Int) < f.quiet; have := hok.quiet; omega⟩ (by omega) ⟨hXX.old _ _ hq, h2, h3, h6, h7, hXX.old _ _ hbt⟩ ⟨_, _, _, rfl, MapG.empty, fun _ _ h => nomatch h⟩ hI)) rfl ?_;rintro _ _ _ ⟨hp3, _, ⟨rfl, rfl, es3, cl3, F3, rfl, hM3, hF3⟩, rfl⟩;refine WL.so (SO.alloc ZvF.h rfl) rfl (zw fun b8 hb8 => ?_);refine g [[4],[0,8,5,4]] ?_;refine WC.drawO [_] (pz [1,3,5,7,8,11]) zk zk zX (fun _ hI => Inv.left (l1 := [_]) (l2 := [_, _]) hI) (g [[4]] ?_);refine WA.so rfl (SO.store 1 rfl SzF.h rfl rfl rfl rfl (zqb rfl) (za rfl)) rfl ?_;rintro _ _ _ ⟨rfl, rfl, rfl⟩;refine ⟨fun _ hI => Inv.left (l1 := [_]) (l2 := [_, _]) hI, ?_⟩;refine g [[4]] ?_;refine WP.ret2 rfl rfl rfl (RV.cellN AgF.h SzF.h rfl (vs := [_, _]) rfl (RdN.own (k := 1) (n := 2) rfl rfl)) (RV.tmp rfl) (fun w1 hI => ⟨rfl, hI.keep⟩)
end
theorem zyP : zj Tryz.prog 282 [.int .i64 0, .int .i64 0] [(0, 1), (1, 1)] := ⟨⟨_, Tryz.zeroValue282, rfl⟩, _, Tryz.underlying282, fun w => by simp [Tryz.sizeOf3]⟩
abbrev zwW := SaF.mk zyP
attribute [instance] zwW
theorem zyQ : zj Tryz.prog 285 [.int .i64 0, .int .i64 0] [(0, 1), (1, 1)] := ⟨⟨_, Tryz.zeroValue285, rfl⟩, _, Tryz.underlying285, fun w => by simp [Tryz.sizeOf3]⟩
abbrev zwX := SaF.mk zyQ
attribute [instance] zwX
theorem zyU : zj Tryz.prog 335 [.int .i64 0, .nilFunc, .nilFunc] [(0, 1), (1, 1), (2, 1)] := ⟨⟨_, Tryz.zeroValue335, rfl⟩, _, Tryz.underlying335, fun w => by simp [Tryz.sizeOf3, Tryz.sizeOf123, Tryz.sizeOf333]⟩
abbrev zx1 := SaF.mk zyU
attribute [instance] zx1
theorem zyV : zj Tryz.prog 342 [.int .i64 0, .int .i64 0, .nilFunc, .nilFunc] [(0, 2), (2, 1), (3, 1)] := ⟨⟨_, Tryz.zeroValue342, rfl⟩, _, Tryz.underlying342, fun w => by simp [Tryz.sizeOf81, Tryz.sizeOf338, Tryz.sizeOf340]⟩
abbrev zx2 := SaF.mk zyV
attribute [instance] zx2
theorem zpn {T S : Type} {g : Option T → Stp → Option T} {g' : Option S → Stp → Option S} : ∀ (l : List Stp), (∀ x ∈ l, ∀ k k', k.isSome = k'.isSome → (g k x).isSome = (g' k' x).isSome) → ∀ k k', k.isSome = k'.isSome → (l.foldl g k).isSome = (l.foldl g' k').isSome
  | [], _, _, _, h => h
  | x :: l, hl, k, k', h => zpn l (fun y hy => hl y (List.mem_cons_of_mem _ hy)) _ _ (hl x List.mem_cons_self k k' h)
theorem zqL {T S : Type} (f : Flag) (e : T) (s : Stp → Nat → T → T) (j : T → T → T) (e' : S) (s' : Stp → Nat → S → S) (j' : S → S → S) : ∀ r p h, (tolF f e s j r p h).isSome = (tolF f e' s' j' r p h).isSome
  | 0, _, _ => rfl
  | r + 1, p, h => by
    show ((stpL f p h).foldl (tolG f e s j r h) none).isSome = ((stpL f p h).foldl (tolG f e' s' j' r h) none).isSome;refine zpn _ (fun x _ k k' hk => ?_) _ _ rfl;have ih := zqL f e s j e' s' j' r x.to (h + 1);unfold tolG;cases h1 : tolF f e s j r x.to (h + 1) with
    | none =>
      rw [h1] at ih;cases h2 : tolF f e' s' j' r x.to (h + 1) with
      | none => exact hk
      | some y => rw [h2] at ih; cases ih
    | some y =>
      rw [h1] at ih;cases h2 : tolF f e' s' j' r x.to (h + 1) with
      | none => rw [h2] at ih; cases ih
      | some y' =>
        cases k <;> cases k' <;> first | rfl | cases hk
theorem zu2 {f : Flag} (h : 0 < zsP f) (a b : Nat) : (spaO f a b).isSome = true := by
  have e : (spaO f a b).isSome = _ := zqL f (⟨0, 0⟩ : Sp) _ _ (1 : Int) (fun _ _ r => wrI (r * 1)) (fun a b => wrI (a + b)) f.hours.length ⟨false, 0⟩ 0;rw [e];unfold zsP at h;cases hc : tolF f (1 : Int) (fun _ _ r => wrI (r * 1)) (fun a b => wrI (a + b)) f.hours.length ⟨false, 0⟩ 0 with
  | none => rw [hc] at h; exact absurd h (by decide)
  | some y => rfl
section
variable (f : Flag) (m : zmF) (hok : K5 f) (hmh : m.h.n = f.hours.length) (qb : Nat) (D : Imm) (hq : D qb = some (fbO f m (kkF f f.hours.length) (seF f true f.seen.length) (seF f false f.seen.length)))
include f m hok hmh qb D hq
theorem zwx (w : World) (hH : Holds D w) : z8 Tryz.prog 169 [pt qb, .iface 282 (.agg #[it (-1), it 0])] w (it (zsP f)) := by
  unfold z8;refine en Tryz.func169 rfl Tryz.ntmps169 (Inv.start hH) (g [[1],[1,0,1]] ?_);refine WL.so (SO.box rfl rfl) rfl (zw fun b3 hb3 => ?_);refine g [[4]] ?_;refine WC.freezeN 0 b3 (.cells (List.toArray [.iface 282 (.agg #[it (-1), it 0])]) 326 (0, 0)) rfl rfl hb3 (fun D3 hX3 h3 => ?_);refine g [[4,4,3,0]] ?_;refine WL.cl rfl (fun w hI => zwq f m hok hmh qb b3 D3 (hX3.old _ _ hq) h3 _ hI.imm) (g [[8],[6,5,4]] ?_);refine WP.ret1 rfl rfl rfl (RV.tmp rfl) (fun w hI => ⟨rfl, hI.keep⟩)
theorem zxe (w : World) (hH : Holds D w) : z8 Tryz.prog 94 [pt qb] w (it (zsP f)) := by
  unfold z8;refine en Tryz.func94 rfl Tryz.ntmps94 (Inv.start hH) (g [[1],[5,0],[4,2,0]] ?_);refine WL.cl rfl (fun w hI => zwx f m hok hmh qb D hq _ hI.imm) (g [[4]] ?_);refine WP.ret1 rfl rfl rfl (RV.tmp rfl) (fun w hI => ⟨rfl, hI.keep⟩)
theorem zwf (p0 q0 : Nat) (hs : (spaO f p0 q0).isSome = true) (w : World) (hH : Holds D w) : z8 Tryz.prog 170 [pt qb, .iface 285 (.agg #[nt p0, nt q0])] w (spV ((spaO f p0 q0).getD ⟨0, 0⟩)) := by
  unfold z8;refine en Tryz.func170 rfl Tryz.ntmps170 (Inv.start hH) (g [[1],[1,0,1]] ?_);refine WL.so (SO.box rfl rfl) rfl (zw fun b3 hb3 => ?_);refine WL.so (SO.alloc ZvF.h rfl) rfl (zw fun b4 hb4 => ?_);refine g [[3]] ?_;refine WC.freezeN 1 b3 (.cells (List.toArray [.iface 285 (.agg #[nt p0, nt q0])]) 326 (0, 0)) rfl rfl hb3 (fun D3 hX3 h3 => ?_);refine g [[5,4,3,0]] ?_;refine WL.cl rfl (fun w hI => zwr f m hok hmh qb b3 p0 q0 D3 (hX3.old _ _ hq) h3 _ hI.imm) (g [[3]] ?_);refine WL.so (SO.alloc ZvF.h rfl) rfl (zw fun b5 hb5 => ?_);refine g [[5],[2,6,5,4]] ?_;refine WL.know 15 (.bool true) rfl (congrArg Value.bool hs) (WL.cl rfl (fun w hI => znn _ _) (g [[3],[6,5,4]] ?_));refine WP.ret1 rfl rfl rfl (RV.cellN AgF.h SzF.h rfl (vs := [_, _]) rfl (RdN.own (k := 1) (n := 2) rfl rfl)) (fun w hI => ⟨rfl, hI.keep⟩)
theorem zw9 (hs : ∀ a b, (spaO f a b).isSome = true) (w : World) (hH : Holds D w) : z8 Tryz.prog 95 [pt qb] w (.tuple #[it (orI (fun h => (sprN f h).lo) f.hours.length), it (orI (fun h => (sprN f h).hi) f.hours.length)]) := by
  unfold z8;obtain ⟨⟨ha, hn, hc⟩, ⟨sa, sn, sc⟩⟩ := m;obtain rfl : hn = f.hours.length := hmh;have hnh := hok.nhours;refine en Tryz.func95 rfl Tryz.ntmps95 (Inv.start hH) (g [[1],[7,0],[11,3,2,0]] ?_);refine WC.loopF (fun k : Nat => [(0, pt qb), (2, it (orI (fun h => (sprN f h).lo) k)), (3, it (orI (fun h => (sprN f h).hi) k)), (11, nt f.hours.length), (12, nt k)]) (fun k => k ≤ f.hours.length) (fun k => f.hours.length - k) 0 (Nat.zero_le _) (by exact ⟨rfl, rfl, rfl, rfl, rfl, trivial⟩) ?_;intro k hk;refine g [[1],[5,0,2,3,11,12]] ?_;refine WC.cond rfl (fun c13 => ?_) (fun c13 => ?_)
  · try simp only [zq] at c13
    have hkl : k < f.hours.length := by omega
    refine g [[5],[6,0,2,3,11,12],[4,4,0,2,3,11,12]] ?_;refine WL.yd (Yd.addN (i := k) (j := 1) rfl rfl (by omega)) rfl (g [[2]] ?_);refine WL.cl rfl (fun w hI => zwf f ⟨⟨ha, f.hours.length, hc⟩, ⟨sa, sn, sc⟩⟩ hok rfl qb D hq k (k + 1) (hs _ _) _ hI.imm) ?_;refine WL.so (SO.alloc ZvF.h rfl) rfl (zw fun b5 hb5 => ?_);refine g [[4],[5,5,4,0,2,3,11,12]] ?_;refine WL.yd (Yd.shl rfl rfl (by omega) rfl) rfl (WL.yd (Yd.orI rfl rfl) rfl (g [[3],[5,2,5,4,0,3,11,12]] ?_));refine WL.yd (Yd.shl rfl rfl (by omega) rfl) rfl (WL.yd (Yd.orI rfl rfl) rfl (g [[4],[4,3,2,0,11,12]] ?_));exact WP.againF (k + 1) hkl (by omega) ⟨rfl, rfl, rfl, rfl, rfl, trivial⟩ (fun _ h => List.mem_cons_of_mem _ h) (fun h => (List.nodup_cons.1 h).2)
  try simp only [zq] at c13
  obtain rfl : k = f.hours.length := by omega
  refine g [[6],[8,2,3]] ?_;refine WP.ret2 rfl rfl rfl (RV.tmp rfl) (RV.tmp rfl) (fun w hI => ⟨rfl, hI.keep⟩)
end
theorem zDy (f : Flag) (m : zmF) (D : Imm) (hR : zpN D f m) (hok : K5 f) (w : World) (hH : Holds D w) : z8 Tryz.prog 27 [zrt f m] w (.tuple #[it (zpM f).1, it (zpM f).2.1, it (zpM f).2.2]) := by
  unfold z8;have hfv : ztg f = true := zpl.2 hok;have hmh : m.h.n = f.hours.length := hR.h.len';refine enD Tryz.func27 rfl Tryz.ntmps27 (Inv.start hH) (g [[1],[1,0]] ?_);refine WL.so (SO.box rfl rfl) rfl (zw fun b1 hb1 => ?_);refine g [[2]] ?_;refine WL.so (SO.alloc ZvF.h rfl) rfl (zw fun b4 hb4 => ?_);refine g [[3],[1,4,3,2,1]] ?_;refine WL.deferA rfl (g [[3],[2,4,3,2,1]] ?_);refine WL.so (SO.newsF (Enters.func CaF.h rfl) (fun w1 hI => zvU f m D hR hok w1 hI.imm)) rfl ?_;rintro _ D1 _ ⟨_, hX1, ⟨qb, rfl, hq, rfl⟩, rfl⟩;refine g [[4],[2,5,4,3,2]] ?_;refine WL.cl rfl (fun w hI => zxe f m hok hmh qb D1 hq _ hI.imm) (g [[1]] ?_);refine WL.part 12 rfl (fun g12 => ?_) (fun g12 => ?_)
  · try simp only [zq] at g12
    refine WL.cl rfl (fun w hI => znn _ _) (g [[3],[2,5,4,3,2]] ?_);refine WL.cl rfl (fun w hI => zw9 f m hok hmh qb D1 hq (zu2 (by omega)) _ hI.imm) (g [[8],[9,7,6,4,3,2]] ?_);refine WP.endDA [_, _, _] [_, _, _] rfl rfl CaF.h (fun w hI => zpe b4 w) rfl zV (fun w hI => ⟨congrArg Ending.returned (by rw [show zpM f = (orI (fun h => (sprN f h).lo) f.hours.length, orI (fun h => (sprN f h).hi) f.hours.length, 0) from by unfold zpM; rw [if_neg (by rw [hfv]; decide), if_neg (by omega)]]; rfl), hI.keep⟩)
  try simp only [zq] at g12
  refine WL.nf rfl (fun w hI => zmu _ _) (g [[1]] ?_);refine WP.panicDA (k := 0) [_, _, _] [_, _, _] rfl CaF.h rfl (fun w hI => zoH b4 10 0 _ w (hI.own _ _ (List.mem_of_getElem? (i := 0) rfl))) rfl zV (fun w hI => ⟨congrArg Ending.returned (by rw [show zpM f = (0, 0, 10) from by unfold zpM; rw [if_neg (by rw [hfv]; decide), if_pos (by omega)]]; rfl), hI.keep⟩)
theorem zyJ : zj Tryz.prog 202 [.int .i64 0, .int .i64 0, .int .i64 0, .int .i64 0] [(0, 1), (1, 1), (2, 1), (3, 1)] := ⟨⟨_, Tryz.zeroValue202, rfl⟩, _, Tryz.underlying202, fun w => by simp [Tryz.sizeOf3]⟩
abbrev zwQ := SaF.mk zyJ
attribute [instance] zwQ
def watC (b : xb) (m : k4) (A L R : Nat) (mb : Nat) : List Value := [it b.wide, it b.deep, it b.speed, it b.last, slV m.sl, ut A, ut L, ut R, .map (some mb)]
def watO (b : xb) (m : k4) (A L R : Nat) (mb : Nat) : Obj := .cells (List.toArray (watC b m A L R mb)) 296 (0, 0)
abbrev watX (b : xb) (m : k4) (mb : Nat) : Obj := watO b m (allN b) (lefN b) (rigN b) mb
abbrev qstC (q : Qst) : List Value := [nt q.boat, nt q.without, nt q.row, nt q.speed]
abbrev qstV (q : Qst) : Value := .agg (qstC q).toArray
structure BNum (b : xb) : Prop where
  w : b.wide = ((b.wide.toNat : Nat) : Int)
  d : b.deep = ((b.deep.toNat : Nat) : Int)
  s : b.speed = ((b.speed.toNat : Nat) : Int)
  l : b.last = ((b.last.toNat : Nat) : Int)
  w8 : 1 ≤ b.wide.toNat ∧ b.wide.toNat ≤ 8
  d6 : 1 ≤ b.deep.toNat ∧ b.deep.toNat ≤ 6
  s3 : b.speed.toNat ≤ 3
  l12 : b.last.toNat ≤ 12
theorem bnum {b : xb} (h : xv b) : BNum b := by
  obtain ⟨h1, h2, h3, h4, _, _⟩ := h;exact ⟨by omega, by omega, by omega, by omega, by omega, by omega, by omega, by omega⟩
theorem zuP {b : xb} (h : xv b) : watN b ≤ 48 := by
  have h1 := h.wide; have h2 := h.deep;have h8 : b.wide = 1 ∨ b.wide = 2 ∨ b.wide = 3 ∨ b.wide = 4 ∨ b.wide = 5 ∨ b.wide = 6 ∨ b.wide = 7 ∨ b.wide = 8 := by omega
  unfold watN;rcases h8 with e | e | e | e | e | e | e | e <;> rw [e] <;> omega
theorem zvW {f : Nat → Bool} {b : xb} (h : xv b) : orF f (watN b) < 2 ^ 48 := Nat.lt_of_lt_of_le (znu _ _) (Nat.pow_le_pow_right (by decide) (zuP h))
section
variable {b : xb} (h : xv b)
include b h
theorem zoq : allN b < 2 ^ 48 := zvW h
theorem zxK : lefN b < 2 ^ 48 := zvW h
theorem zy3 : rigN b < 2 ^ 48 := zvW h
theorem zuJ (p : Nat) : steN b p < 2 ^ 48 := Nat.lt_of_le_of_lt Nat.and_le_left (zoq h)
end
theorem zyg {p k : Nat} (hp : p < 2 ^ 48) (hk : k ≤ 8) : p * 2 ^ k < 2 ^ 56 := by
  have h1 : 2 ^ k ≤ 2 ^ 8 := Nat.pow_le_pow_right (by decide) hk
  calc p * 2 ^ k ≤ p * 2 ^ 8 := Nat.mul_le_mul_left _ h1
    _ < 2 ^ 56 := by omega
theorem zqQ (l : List Nat) (hl : ∀ x ∈ l, x < 2 ^ 63) (a : Option Addr) (n c : Nat) (D : Imm) (hS : SlL D 1 (l.map utC) a n) (hn : n ≤ 1000) (w : World) (hH : Holds D w) : z8 Tryz.prog 177 [.slice a n c] w (ut (uniN l)) := by
  unfold z8;obtain rfl := hS.len';refine en Tryz.func177 rfl Tryz.ntmps177 (Inv.start hH) (g [[1],[6,0],[7,2,0]] ?_);refine WC.loopF (fun k : Nat => [(2, ut (uniN (l.take k))), (5, .slice a l.length c), (6, nt l.length), (7, nt k)]) (fun k => k ≤ l.length) (fun k => l.length - k) 0 (Nat.zero_le _) (by exact ⟨rfl, rfl, rfl, rfl, trivial⟩) ?_;intro k hk;refine g [[1],[5,2,5,6,7]] ?_;refine WC.cond rfl (fun c8 => ?_) (fun c8 => ?_)
  · try simp only [zq] at c8
    have hkl : k < l.length := by omega
    refine g [[5],[1,2,5,6,7]] ?_;refine WL.yd (Yd.ix rfl rfl (hS.addr k (by omega))) rfl (WL.yd (Yd.l1 rfl ((hS.at k (by omega)).rd 0 rfl)) rfl (g [[3],[3,4,2,5,6,7]] ?_));refine WL.yd (Yd.orG (.inl rfl) (zqO hl k) (hl _ (yE hkl)) rfl rfl) rfl (g [[4],[4,2,5,6,7]] ?_);exact WP.againF (k + 1) hkl (by omega) ⟨by rw [zp8 hkl]; rfl, rfl, rfl, rfl, trivial⟩ (fun _ h => h) (fun h => h)
  try simp only [zq] at c8
  obtain rfl : k = l.length := by omega
  refine g [[6],[6,2]] ?_;refine WP.ret1 rfl rfl rfl (RV.tmp rfl) (fun w hI => ⟨by rw [List.take_length], hI.keep⟩)
theorem zpt (x : Sp) (hi : Int) (w : World) : z8 Tryz.prog 174 [.agg #[it x.lo, it x.hi], it hi] w (.bool (spB x 0 hi)) := by
  unfold z8;refine en Tryz.func174 rfl Tryz.ntmps174 zI (g [[1],[1,0,1]] ?_);refine WL.so (SO.box rfl rfl) rfl (zw fun b2 hb2 => ?_);refine g [[4],[5,4,2,1]] ?_;refine WL.part 8 rfl (fun g8 => ?_) (fun g8 => ?_)
  · try simp only [zq] at g8
    refine g [[7]] ?_;refine WL.part 15 rfl (fun g15 => ?_) (fun g15 => ?_)
    · try simp only [zq] at g15
      refine g [[9]] ?_;refine WP.ret1 rfl rfl rfl (RV.tmp rfl) (fun w hI => ⟨zb (by rw [Bool.eq_iff_iff]; simp [spB]; omega), hI.keep⟩)
    try simp only [zq] at g15
    refine g [[9]] ?_;refine WP.ret1 rfl rfl rfl (RV.tmp rfl) (fun w hI => ⟨zb (by rw [Bool.eq_iff_iff]; simp [spB]; omega), hI.keep⟩)
  try simp only [zq] at g8
  refine g [[16]] ?_;refine WP.ret1 rfl rfl rfl (RV.tmp rfl) (fun w hI => ⟨zb (by rw [Bool.eq_iff_iff]; simp [spB]; omega), hI.keep⟩)
theorem zrH (n : Int) (b : xb) (m : k4) (D : Imm) (hR : zmz D b m) (w : World) (hH : Holds D w) : z8 Tryz.prog 104 [znc b m, it n] w (.bool (zqt b n)) := by
  unfold z8;obtain ⟨⟨ba, bn, bc⟩, ml⟩ := m;obtain rfl : bn = b.seen.length := by have := hR.sl.len'; have h2 := hR.len; dsimp only at this h2; omega
  have nb : b.seen.length ≤ 9223372036854775807 := hR.n;dsimp only [znc, slV];refine en Tryz.func104 rfl Tryz.ntmps104 (Inv.start hH) (g [[1],[1,0,1]] ?_);refine WL.so (SO.box rfl rfl) rfl (zw fun b2 hb2 => ?_);refine g [[4],[6,4,2,1]] ?_;refine WL.cl rfl (fun w hI => zn3 _ _ _ _) (g [[4]] ?_);refine WP.ret1 rfl rfl rfl (RV.tmp rfl) (fun w hI => ⟨rfl, hI.keep⟩)
theorem zq4 (k : Nat) (b : xb) (m : k4) (hok : xv b) (qb mb : Nat) (D : Imm) (hq : D qb = some (watX b m mb)) (w : World) (hH : Holds D w) : z8 Tryz.prog 175 [pt qb, nt k] w (qstV (plnQ b k)) := by
  unfold z8;have hb := bnum hok;have hw8 := hb.w8;have hd6 := hb.d6;refine en Tryz.func175 rfl Tryz.ntmps175 (Inv.start hH) (g [[1],[1,0,1]] ?_);refine WL.so (SO.alloc ZvF.h rfl) rfl (zw fun b4 hb4 => ?_);refine g [[3],[7,4,0,1]] ?_;refine WL.know 10 (nt b.speed.toNat) rfl (congrArg it hb.s) (g [[5]] ?_);refine WP.ret1 rfl rfl rfl (RV.cellN AgF.h SzF.h rfl (vs := [_, _, _, _]) rfl (RdN.own (k := 0) (n := 4) rfl rfl)) (fun w hI => ⟨rfl, hI.keep⟩)
theorem zwj (p : Nat) (hp : p < 2 ^ 48) (b : xb) (m : k4) (hok : xv b) (qb mb : Nat) (D : Imm) (hq : D qb = some (watX b m mb)) (w : World) (hH : Holds D w) : z8 Tryz.prog 211 [pt qb, ut p] w (ut (steN b p)) := by
  unfold z8;have hb := bnum hok;have hw8 := hb.w8;have hd6 := hb.d6;have hs56 := zyg hp hb.w8.2;have hbl := zoN (b := lefN b) hp;have hbr := zoN (b := rigN b) hp
  have hl5 : ∀ x ∈ [p, butN p (lefN b) / 2, butN p (rigN b) * 2, p / 2 ^ b.wide.toNat, p * 2 ^ b.wide.toNat], x < 2 ^ 63 := by
    intro x hx;simp only [List.mem_cons, List.not_mem_nil, or_false] at hx;have := Nat.div_le_self p (2 ^ b.wide.toNat);rcases hx with rfl | rfl | rfl | rfl | rfl <;> omega
  have huni : uniN [p, butN p (lefN b) / 2, butN p (rigN b) * 2, p / 2 ^ b.wide.toNat, p * 2 ^ b.wide.toNat] < 2 ^ 63 := by have := zqO hl5 5; exact this
  refine en Tryz.func211 rfl Tryz.ntmps211 (Inv.start hH) (g [[1],[5,0,1],[0,4,0,1]] ?_);refine WC.drawO [] (pz [1,3,5,7,9,11,13,15,17,19,21,23,25,27,29,31,33,35,37,39,41,43,45,47,49,51,53,55,57,59,61,63,65,66,68,71,73]) zk zk zX (fun _ hI => Inv.nil hI) (g [[10]] ?_);refine WA.yd rfl (Yd.butG (.inl rfl) (lt63 hp (by omega)) (lt63 (zxK hok) (by omega)) rfl rfl) rfl (WA.yd rfl (Yd.shrG (.inl rfl) (j := 1) (by omega) rfl rfl) rfl (g [[5]] ?_));refine WA.yd rfl (Yd.butG (.inl rfl) (lt63 hp (by omega)) (lt63 (zy3 hok) (by omega)) rfl rfl) rfl (WA.yd rfl (Yd.shlG (.inl rfl) (a := butN p (rigN b)) (j := 1) (by omega) (by omega) rfl rfl) rfl (g [[6]] ?_));refine WA.know 29 (nt b.wide.toNat) rfl (congrArg it hb.w) (WA.yd rfl (Yd.shrG (.inl rfl) (by omega) rfl rfl) rfl (g [[6]] ?_));refine WA.know 36 (nt b.wide.toNat) rfl (congrArg it hb.w) (WA.yd rfl (Yd.shlG (.inl rfl) (lt63 (n := 56) hs56 (by omega)) (by omega) rfl rfl) rfl ?_);refine WA.so rfl (SO.buildSlice1 UnF.h SzF.h ZvF.h rfl rfl rfl (vs := [_, _, _, _, _]) rfl rfl rfl) rfl ?_;rintro _ _ _ ⟨b38, hb38, rfl, rfl, rfl⟩;refine ⟨fun _ hI => hI.drop 1, ?_⟩;refine WA.freezeN 0 b38 (.cells (List.toArray ([p, butN p (lefN b) / 2, butN p (rigN b) * 2, p / 2 ^ b.wide.toNat, p * 2 ^ b.wide.toNat].map fun n => ut n)) 192 (0, 0)) rfl rfl hb38 (fun D38 hX38 h38 => ?_);refine WA.so rfl (SO.callP CaF.h rfl (fun w hI => zqQ [p, butN p (lefN b) / 2, butN p (rigN b) * 2, p / 2 ^ b.wide.toNat, p * 2 ^ b.wide.toNat] hl5 _ _ _ D38 (SlL.ofBlock (l := [p, butN p (lefN b) / 2, butN p (rigN b) * 2, p / 2 ^ b.wide.toNat, p * 2 ^ b.wide.toNat]) (rest := []) znB h38) (by show 5 ≤ 1000; omega) _ hI.imm)) rfl (zs ⟨fun _ hI => hI.shrink hX38.old, ?_⟩);refine WA.yd rfl (Yd.andG (.inl rfl) (lt63 (zoq hok) (by omega)) huni rfl rfl) rfl (g [[4]] ?_);refine WP.ret1 rfl rfl rfl (RV.tmp rfl) (fun w hI => ⟨rfl, hI.keep⟩)
theorem zuS {P : Program} {x : Cx} {fr : Fr} {D : Imm} {hp : Hp} {ty t t' : TypeId} {o p : Operand} {i j : Nat} (ho : opv fr o = some (nt i)) (hp' : opv fr p = some (nt j)) (h : i * j ≤ 1000) : Yd P x fr D hp (.binOp .mul t o p t') ty (nt (i * j)) := by
  have e : ((i * j : Nat) : Int) = (i : Int) * (j : Int) := Int.natCast_mul ..;have := Yd.mul (P := P) (x := x) (D := D) (hp := hp) (ty := ty) (t := t) (t' := t') (i := (i : Int)) (j := (j : Int)) ho hp' (wr64 (by omega));rw [← e] at this;exact this
theorem zDo {n w : Nat} (hn : n ≤ 7) (hw : w ≤ 8) : n * w ≤ 56 := Nat.mul_le_mul hn hw
theorem zuC {b : xb} (h : xv b) (n : Nat) : rowN b n < 2 ^ 48 := Nat.lt_of_le_of_lt (Nat.div_mul_le_self _ _) (zoq h)
def sgR (b : xb) (s : zms) (i : Nat) : List Nat := ((rng s.rows.lo s.rows.hi).drop i).flatMap fun r => (rng s.cols.lo s.cols.hi).map fun c => 2 ^ (r * b.wide + c).toNat
def sgC (b : xb) (s : zms) (i j : Nat) : List Nat := ((rng s.cols.lo s.cols.hi).drop j).map fun c => 2 ^ ((s.rows.lo + (i : Int)) * b.wide + c).toNat
section
variable {b : xb} {s : zms}
include b s
theorem zu0 {i : Nat} (hi : i < (s.rows.hi - s.rows.lo + 1).toNat) : sgR b s i = sgC b s i 0 ++ sgR b s (i + 1) := by
  unfold sgR sgC; rw [zoa hi, List.flatMap_cons, List.drop_zero]
theorem zwb {i : Nat} (hi : (s.rows.hi - s.rows.lo + 1).toNat ≤ i) : sgR b s i = [] := by unfold sgR; rw [zp3 hi]; rfl
theorem ztZ {i j : Nat} (hj : j < (s.cols.hi - s.cols.lo + 1).toNat) : sgC b s i j = 2 ^ ((s.rows.lo + (i : Int)) * b.wide + (s.cols.lo + (j : Int))).toNat :: sgC b s i (j + 1) := by
  unfold sgC; rw [zoa hj]; rfl
theorem zwa {i j : Nat} (hj : (s.cols.hi - s.cols.lo + 1).toNat ≤ j) : sgC b s i j = [] := by unfold sgC; rw [zp3 hj]; rfl
end
theorem zrn {b : xb} (hok : xv b) {r c : Int} (hr : 0 ≤ r ∧ r ≤ b.deep - 1) (hc : 0 ≤ c ∧ c ≤ b.wide - 1) : 0 ≤ r * b.wide ∧ r * b.wide ≤ 40 ∧ (r * b.wide + c).toNat < 48 ∧ r * b.wide + c = (((r * b.wide + c).toNat : Nat) : Int) := by
  have h1 := hok.wide; have h2 := hok.deep;have h8 : b.wide = 1 ∨ b.wide = 2 ∨ b.wide = 3 ∨ b.wide = 4 ∨ b.wide = 5 ∨ b.wide = 6 ∨ b.wide = 7 ∨ b.wide = 8 := by omega
  rcases h8 with e | e | e | e | e | e | e | e <;> rw [e] at hc ⊢ <;> omega
abbrev bsV (s : zms) : Value := .agg (bsC s).toArray
def ORF (l : List Nat) (a : Nat) : Nat := l.foldl (fun a x => a ||| x) a
theorem zuI {b : xb} {s : zms} {m : Nat} (h : ¬ (m : Int) = s.minute) : sgtN b s m = allN b := if_pos h
theorem zuH {b : xb} {s : zms} {m : Nat} (h : (m : Int) = s.minute) : sgtN b s m = ORF (sgR b s 0) 0 := if_neg (fun h2 => h2 h)
theorem zy4 (n : Nat) (hn : n ≤ 7) (b : xb) (m : k4) (hok : xv b) (qb mb : Nat) (D : Imm) (hq : D qb = some (watX b m mb)) (w : World) (hH : Holds D w) : z8 Tryz.prog 302 [pt qb, nt n] w (ut (rowN b n)) := by
  unfold z8;have hb := bnum hok;have hw8 := hb.w8;have hd6 := hb.d6;have h56 := zDo hn hb.w8.2;refine en Tryz.func302 rfl Tryz.ntmps302 (Inv.start hH) (g [[1],[5,0,1],[0,4,0,1],[3019],[10]] ?_);refine WQ.know 14 (nt b.wide.toNat) rfl (congrArg it hb.w) (WQ.q rfl (Yd.qt (zuS (i := n) (j := b.wide.toNat) rfl rfl (by omega))) rfl ?_);refine WQ.q rfl (Yd.qt (Yd.shrG (.inl rfl) (by omega) rfl rfl)) rfl (g [[6]] ?_);refine WQ.know 22 (nt b.wide.toNat) rfl (congrArg it hb.w) (WQ.q rfl (Yd.qt (zuS (i := n) (j := b.wide.toNat) rfl rfl (by omega))) rfl (g [[1]] ?_));refine WL.yd (Yd.shlG (.inl rfl) (lt63 (n := 48) (zuC hok n) (by omega)) (by omega) rfl rfl) rfl (g [[4]] ?_);refine WP.ret1 rfl rfl rfl (RV.tmp rfl) (fun w hI => ⟨rfl, hI.keep⟩)
theorem zw5 (n k : Nat) (hn : n ≤ 7) (b : xb) (m : k4) (hok : xv b) (qb mb : Nat) (D : Imm) (hq : D qb = some (watX b m mb)) (w : World) (hH : Holds D w) : z8 Tryz.prog 301 [.agg #[nt n], pt qb, nt k] w (ut (rowN b n)) := by
  unfold z8;refine en Tryz.func301 rfl Tryz.ntmps301 (Inv.start hH) (g [[1],[1,0,1]] ?_);refine WL.so (SO.box rfl rfl) rfl (zw fun b3 hb3 => ?_);refine g [[4],[4,6,3,1]] ?_;refine WL.cl rfl (fun w hI => zy4 n hn b m hok qb mb D hq _ hI.imm) (g [[4]] ?_);refine WP.ret1 rfl rfl rfl (RV.tmp rfl) (fun w hI => ⟨rfl, hI.keep⟩)
theorem zu1 (b : xb) (s : zms) (k : Nat) (hs : znN b s) (m : k4) (hok : xv b) (qb mb : Nat) (D : Imm) (hq : D qb = some (watX b m mb)) (w : World) (hH : Holds D w) : z8 Tryz.prog 303 [(.agg #[it s.minute, it s.cols.lo, it s.cols.hi, it s.rows.lo, it s.rows.hi]), pt qb, nt k] w (ut (sgtN b s k)) := by
  unfold z8;have hb := bnum hok;have hw8 := hb.w8;have hd6 := hb.d6;have hsr := zmU.1 hs.rows;have hsc := zmU.1 hs.cols;have hmn := hs.minute;have hwd := hok.wide;have hdp := hok.deep;refine en Tryz.func303 rfl Tryz.ntmps303 (Inv.start hH) (g [[1],[1,0,1,2]] ?_);refine WL.so (SO.box rfl rfl) rfl (zw fun b3 hb3 => ?_);refine g [[5],[8,6,3,1,2]] ?_;refine WC.cond rfl (fun c13 => ?_) (fun c13 => ?_)
  · try simp only [zq] at c13
    refine g [[1],[10,6,3,1]] ?_;refine WP.ret1 rfl rfl rfl (RV.tmp rfl) (fun w hI => ⟨by rw [zuI (by omega)], hI.keep⟩)
  try simp only [zq] at c13
  refine g [[4],[9,6,3,1]] ?_;refine WC.loop (fun y : Nat × Nat => [(1, pt qb), (3, pt b3), (6, ut y.2), (7, it (s.rows.lo + ((y.1 : Nat) : Int)))]) (fun y => [(b3, .cells (List.toArray [it s.minute, it s.cols.lo, it s.cols.hi, it s.rows.lo, it s.rows.hi]) 394 (0, 0))]) (fun _ => D) (fun y => y.1 ≤ (s.rows.hi - s.rows.lo + 1).toNat ∧ ORF (sgR b s 0) 0 = ORF (sgR b s y.1) y.2 ∧ y.2 < 2 ^ 48) (fun y => (s.rows.hi - s.rows.lo + 1).toNat - y.1) (0, 0) ⟨Nat.zero_le _, rfl, by decide⟩ (fun a w ha => y4 ha ⟨rfl, rfl, rfl, by show some (it _) = some (it _); congr 2; exact (Int.add_zero _).symm, trivial⟩) ?_;rintro ⟨i, acc⟩ ⟨hi, hres, hacc⟩;dsimp only at hi hres hacc;refine g [[2],[9,1,3,6,7]] ?_;refine WC.cond rfl (fun c27 => ?_) (fun c27 => ?_)
  · try simp only [zq] at c27
    have hi2 : i < (s.rows.hi - s.rows.lo + 1).toNat := by omega
    refine g [[5],[9,1,3,6,7]] ?_;rw [zu0 hi2] at hres;refine WC.loop (fun y : Nat × Nat => [(1, pt qb), (3, pt b3), (6, ut y.2), (7, it (s.rows.lo + ((i : Nat) : Int))), (8, it (s.cols.lo + ((y.1 : Nat) : Int)))]) (fun y => [(b3, .cells (List.toArray [it s.minute, it s.cols.lo, it s.cols.hi, it s.rows.lo, it s.rows.hi]) 394 (0, 0))]) (fun _ => D) (fun y => y.1 ≤ (s.cols.hi - s.cols.lo + 1).toNat ∧ ORF (sgR b s 0) 0 = ORF (sgC b s i y.1 ++ sgR b s (i + 1)) y.2 ∧ y.2 < 2 ^ 48) (fun y => (s.cols.hi - s.cols.lo + 1).toNat - y.1) (0, acc) ⟨Nat.zero_le _, hres, hacc⟩ (fun a w ha => y4 ha ⟨rfl, rfl, rfl, rfl, by show some (it _) = some (it _); congr 2; exact (Int.add_zero _).symm, trivial⟩) ?_;clear hres hacc;rintro ⟨j, acc⟩ ⟨hj, hres, hacc⟩;dsimp only at hj hres hacc;refine g [[2],[9,1,3,6,7,8]] ?_;refine WC.cond rfl (fun c39 => ?_) (fun c39 => ?_)
    · try simp only [zq] at c39
      have hj2 : j < (s.cols.hi - s.cols.lo + 1).toNat := by omega
      obtain ⟨hc1, hc2, hc3, hc4⟩ := zrn hok (r := s.rows.lo + ((i : Nat) : Int)) (c := s.cols.lo + ((j : Nat) : Int)) (by omega) (by omega);refine g [[4],[11,1,3,6,7,8]] ?_;refine WL.know 51 (nt ((s.rows.lo + ((i : Nat) : Int)) * b.wide + (s.cols.lo + ((j : Nat) : Int))).toNat) rfl (congrArg it hc4) ?_;refine WL.yd (Yd.shlG (.inl rfl) (a := 1) (by rw [Nat.one_mul]; exact zna (by omega)) (by omega) rfl rfl) rfl ?_;refine WL.yd (Yd.orG (.inl rfl) (lt63 hacc (by omega)) (by rw [Nat.one_mul]; exact zna (by omega)) rfl rfl) rfl (g [[4],[5,6,1,3,7,8]] ?_);refine WP.again (j + 1, acc ||| 2 ^ ((s.rows.lo + ((i : Nat) : Int)) * b.wide + (s.cols.lo + ((j : Nat) : Int))).toNat) ⟨hj2, by rw [hres, ztZ hj2]; rfl, Nat.or_lt_two_pow hacc (Nat.pow_lt_pow_right (by decide) hc3)⟩ (by show (s.cols.hi - s.cols.lo + 1).toNat - (j + 1) < (s.cols.hi - s.cols.lo + 1).toNat - j; omega) (fun a w ha => y4 ha ⟨rfl, rfl, by show some (ut (acc ||| 1 * 2 ^ _)) = _; rw [Nat.one_mul], rfl, by show some (it _) = some (it _); congr 2; push_cast; omega, trivial⟩)
    try simp only [zq] at c39
    have hj2 : (s.cols.hi - s.cols.lo + 1).toNat ≤ j := by omega
    refine g [[6],[5,1,3,6,7]] ?_;exact WP.again (i + 1, acc) ⟨hi2, by rw [hres, zwa hj2]; rfl, hacc⟩ (by show (s.rows.hi - s.rows.lo + 1).toNat - (i + 1) < (s.rows.hi - s.rows.lo + 1).toNat - i; omega) (fun a w ha => y4 ha ⟨rfl, rfl, rfl, by show some (it _) = some (it _); congr 2; push_cast; omega, trivial⟩)
  try simp only [zq] at c27
  have hend : sgtN b s k = acc := by rw [zuH (by omega), hres, zwb (by omega)]; rfl
  refine g [[6],[6,6]] ?_;refine WP.ret1 rfl rfl rfl (RV.tmp rfl) (fun w hI => ⟨by rw [hend], hI.keep⟩)
theorem zyR : zj Tryz.prog 296 [.int .i64 0, .int .i64 0, .int .i64 0, .int .i64 0, .slice none 0 0, .int .u64 0, .int .u64 0, .int .u64 0, .map none] [(0, 5), (5, 1), (6, 1), (7, 1), (8, 1)] := ⟨⟨_, Tryz.zeroValue296, rfl⟩, _, Tryz.underlying296, fun w => by simp [Tryz.sizeOf56, Tryz.sizeOf192, Tryz.sizeOf294]⟩
abbrev zwY := SaF.mk zyR
attribute [instance] zwY
theorem zt9 {x : Nat} (h : x < 2 ^ 64) : Lib.ctz 64 x ≤ 64 := by
  unfold Lib.ctz;split
  · exact Nat.le_refl _
  rename_i h0
  obtain ⟨_, _, h2⟩ := Lib.ctzFrom_spec 64 x (by omega) h;omega
theorem zuf : ∀ f x, Lib.bitLenAux f x ≤ f
  | 0, _ => Nat.le_refl _
  | f + 1, x => by
    unfold Lib.bitLenAux;split
    · omega
    have := zuf f (x / 2); omega
theorem zz7 (x : Nat) : Lib.bitLen x ≤ 64 := zuf 64 x
theorem zxg {x : Nat} (h : x ≠ 0) : 1 ≤ Lib.bitLen x := by
  show 1 ≤ Lib.bitLenAux 64 x;rw [Lib.bitLenAux, if_neg h]; omega
theorem zrp {a b : Int} (ha : 0 ≤ a ∧ a ≤ 64) (hb : 1 ≤ b ∧ b ≤ 8) : 0 ≤ a / b ∧ a / b ≤ 64 := by
  have h8 : b = 1 ∨ b = 2 ∨ b = 3 ∨ b = 4 ∨ b = 5 ∨ b = 6 ∨ b = 7 ∨ b = 8 := by omega
  rcases h8 with e | e | e | e | e | e | e | e <;> rw [e] <;> omega
theorem zuZ {b : xb} (hok : xv b) {k j : Nat} (hk : k < b.seen.length) (hj : j < (gt b.seen k).length) : inB (gt (gt b.seen k) j).minute (zpC 0 (gt b.seen k) j) b.last = true ∧ spB (gt (gt b.seen k) j).cols 0 (b.wide - 1) = true ∧ spB (gt (gt b.seen k) j).rows 0 (b.deep - 1) = true := by
  have h1 := zpE _ _ (j + 1) (hok.rows _ (yE hk)).2;rw [zn0 _ _ _ hj] at h1;unfold zwi at h1;simp only [Bool.and_eq_true] at h1;exact ⟨h1.2.1.1, h1.2.1.2, h1.2.2⟩
theorem zwg (p : Nat) (hp : p < 2 ^ 48) (h0 : p ≠ 0) (b : xb) (m : k4) (hok : xv b) (qb mb : Nat) (D : Imm) (hT : LibT D) (hq : D qb = some (watX b m mb)) (w : World) (hH : Holds D w) : z8 Tryz.prog 179 [pt qb, ut p] w (.agg #[it ((Lib.ctz 64 p : Int) / b.wide), it (((Lib.bitLen p : Int) - 1) / b.wide)]) := by
  unfold z8;have hb := bnum hok;have hw8 := hb.w8;have hd6 := hb.d6;have hwd := hok.wide;have hc64 := zt9 (x := p) (by omega);have hl64 := zz7 p;have hl1 := zxg h0;have hq1 := zrp (a := (Lib.ctz 64 p : Int)) (b := b.wide) (by omega) hwd;have hq2 := zrp (a := (Lib.bitLen p : Int) - 1) (b := b.wide) (by omega) hwd;refine en Tryz.func179 rfl Tryz.ntmps179 (Inv.start hH) (g [[1],[1,0,1]] ?_);refine WL.so (SO.alloc ZvF.h rfl) rfl (zw fun b4 hb4 => ?_);refine g [[3],[0,4,0,1],[3017],[1]] ?_;refine WQ.q rfl (Qt.callP CaF.h rfl (fun w hI => zuN p (by omega) D hT _ hI.imm)) rfl (g [[5]] ?_);refine WQ.q rfl (Yd.qt (Yd.quo rfl rfl (by omega) (by omega) (wr64 (by omega)))) rfl (g [[1]] ?_);refine WQ.q rfl (Qt.callP CaF.h rfl (fun w hI => zaA p (by omega) _)) rfl (g [[6]] ?_);refine WQ.q rfl (Yd.qt (Yd.quo rfl rfl (by omega) (by omega) (wr64 (by omega)))) rfl (g [[6]] ?_);refine WP.ret1 rfl rfl rfl (RV.cellN AgF.h SzF.h rfl (vs := [_, _]) rfl (RdN.own (k := 0) (n := 2) rfl rfl)) (fun w hI => ⟨rfl, hI.keep⟩)
theorem zr4 (b : xb) (m : k4) (D : Imm) (hR : zmz D b m) (w : World) (hH : Holds D w) (hok : xv b) : News Tryz.prog 103 [znc b m, .bool true] w D (fun v D' h' => ∃ q mb, v = pt q ∧ D' q = some (watX b m mb) ∧ h' = [(mb, .map #[] 0)]) := by
  unfold News;obtain ⟨⟨ba, bn, bc⟩, ml⟩ := m;have hml : ml.length = b.seen.length := hR.len;have hRs0 : SlL D 1 (ml.map slC) ba bn := hR.sl;obtain rfl : bn = b.seen.length := by have := hRs0.len'; omega
  have hRr : ∀ i, i < b.seen.length → SlL D 5 ((gt b.seen i).map bsC) (gt ml i).a (gt ml i).n := hR.row;have hRn : ∀ i, i < b.seen.length → (gt ml i).n ≤ 9223372036854775807 := hR.nr;have nb : b.seen.length ≤ 9223372036854775807 := hR.n;dsimp only [znc, slV];have hw48 := zuP hok;have hwd := hok.wide;have hdp := hok.deep
  have hwat : b.wide * b.deep = ((watN b : Nat) : Int) := by
    have := Int.mul_nonneg (show 0 ≤ b.wide by omega) (show 0 ≤ b.deep by omega);unfold watN; omega
  refine en Tryz.func103 rfl Tryz.ntmps103 (Inv.start hH) (g [[1],[1,0,1]] ?_);refine WL.so (SO.box rfl rfl) rfl (zw fun b2 hb2 => ?_);refine g [[4],[3,4,2,1]] ?_;refine WL.cl rfl (fun w hI => zn3 _ _ _ _) (WL.know 14 (.bool true) rfl (congrArg Value.bool (znf.2 hok.wide)) (g [[3]] ?_));refine WL.sog rfl (SO.callP CaF.h rfl (fun w hI => zn3 _ _ _ _)) rfl (zs ?_);refine WL.know 18 (.bool true) rfl (congrArg Value.bool (znf.2 hok.deep)) (g [[4]] ?_);refine WL.sog rfl (SO.callP CaF.h rfl (fun w hI => zn3 _ _ _ _)) rfl (zs ?_);refine WL.know 23 (.bool true) rfl (congrArg Value.bool (znf.2 hok.speed)) (g [[4]] ?_);refine WL.sog rfl (SO.callP CaF.h rfl (fun w hI => zn3 _ _ _ _)) rfl (zs ?_);refine WL.know 28 (.bool true) rfl (congrArg Value.bool (znf.2 hok.last)) (g [[6]] ?_);refine WL.know 34 (.bool true) rfl (congrArg Value.bool (decide_eq_true (by have := hok.n; omega))) (g [[1]] ?_);refine WL.cl rfl (fun w hI => znG _ _) (g [[4],[8,4,2,1]] ?_);refine WC.loopF (fun k : Nat => [(1, .bool true), (2, pt b2), (38, .slice ba b.seen.length bc), (39, nt b.seen.length), (40, nt k)]) (fun k => k ≤ b.seen.length) (fun k => b.seen.length - k) 0 (Nat.zero_le _) (by exact ⟨rfl, rfl, rfl, rfl, rfl, trivial⟩) ?_;intro k hk;refine g [[1],[5,1,2,38,39,40]] ?_;refine WC.cond rfl (fun c41 => ?_) (fun c41 => ?_)
  · try simp only [zq] at c41
    have hkl : k < b.seen.length := by omega
    have hl5 := (hok.rows _ (yE hkl)).1;have hmn := (hRr k hkl).len';have hmn2 : (gt ml k).n = (gt b.seen k).length := hmn;refine g [[5],[1,1,2,38,39,40]] ?_;refine WL.yd (Yd.indexS UnF.h SzF.h rfl rfl (by (try dsimp only); omega) (by (try dsimp only); omega) (hRs0.addr k (by omega))) rfl ?_;refine WL.yd (Yd.l1 rfl ((hRs0.at k (by omega)).rd 0 rfl)) rfl (g [[4],[4,6,1,2,38,39,40]] ?_);refine WL.know 46 (.bool true) rfl (congrArg Value.bool (decide_eq_true (by omega))) (WL.cl rfl (fun w hI => znG _ _) (g [[3],[5,6,1,2,38,39,40],[7,7,6,1,2,38,39,40]] ?_));have hrow := hRr k hkl;have hrn := hRn k hkl;generalize gt ml k = q at hrow hrn ⊢;obtain ⟨ra, rn, rc⟩ := q;obtain rfl : rn = (gt b.seen k).length := hrow.len';dsimp only at hrow hrn;refine WC.loopF (fun j : Nat => [(1, .bool true), (2, pt b2), (7, it (zpC 0 (gt b.seen k) j)), (38, .slice ba b.seen.length bc), (39, nt b.seen.length), (40, nt k), (48, .slice ra (gt b.seen k).length rc), (49, nt (gt b.seen k).length), (50, nt j)]) (fun j => j ≤ (gt b.seen k).length) (fun j => (gt b.seen k).length - j) 0 (Nat.zero_le _) (by exact ⟨rfl, rfl, rfl, rfl, rfl, rfl, rfl, rfl, rfl, trivial⟩) ?_;intro j hj;refine g [[1],[5,1,2,7,38,39,40,48,49,50]] ?_;refine WC.cond rfl (fun c51 => ?_) (fun c51 => ?_)
    · try simp only [zq] at c51
      have hjl : j < (gt b.seen k).length := by omega
      have hst := zuZ hok hkl hjl;refine g [[5],[1,1,2,7,38,39,40,48,49,50]] ?_;refine WL.yd (Yd.indexS UnF.h SzF.h rfl rfl (by (try dsimp only); omega) (by (try dsimp only); omega) (hrow.addr j (by omega))) rfl ?_;refine WL.yd (Yd.lV [_, _, _, _, _] rfl ((hrow.at j (by omega)).rdn 0 5 rfl)) rfl ?_;refine WL.so (SO.alloc ZvF.h rfl) rfl (zw fun b9 hb9 => ?_);refine g [[4],[6,9,1,2,7,38,39,40,48,49,50]] ?_;refine WL.cl rfl (fun w hI => zn3 _ _ _ _) (WL.know 59 (.bool true) rfl (congrArg Value.bool hst.1) (g [[5]] ?_));refine WL.ydg rfl (Yd.sub rfl rfl (wr64 ⟨by (try dsimp only); omega, by (try dsimp only); omega⟩)) rfl ?_;refine WL.sog rfl (SO.callP CaF.h rfl (fun w hI => zpt (gt (gt b.seen k) j).cols (b.wide - 1) _)) rfl (zs ?_);refine WL.know 66 (.bool true) rfl (congrArg Value.bool hst.2.1) (g [[6]] ?_);refine WL.ydg rfl (Yd.sub rfl rfl (wr64 ⟨by (try dsimp only); omega, by (try dsimp only); omega⟩)) rfl ?_;refine WL.sog rfl (SO.callP CaF.h rfl (fun w hI => zpt (gt (gt b.seen k) j).rows (b.deep - 1) _)) rfl (zs ?_);refine WL.know 74 (.bool true) rfl (congrArg Value.bool hst.2.2) (g [[1]] ?_);refine WL.cl rfl (fun w hI => znG _ _) (g [[2],[7,9,1,2,7,38,39,40,48,49,50],[1,7,1,2,38,39,40,48,49,50]] ?_);refine WL.yd (Yd.add rfl rfl (wr64 ⟨by (try dsimp only); omega, by (try dsimp only); omega⟩)) rfl (g [[2]] ?_);exact WP.againF (j + 1) hjl (by omega) ⟨rfl, rfl, rfl, rfl, rfl, rfl, rfl, rfl, rfl, trivial⟩ (fun _ h => List.mem_cons_of_mem _ h) (fun h => (List.nodup_cons.1 h).2)
    try simp only [zq] at c51
    obtain rfl : j = (gt b.seen k).length := by omega
    refine g [[6],[1,1,2,38,39,40]] ?_;refine WL.yd (Yd.add rfl rfl (wr64 ⟨by (try dsimp only); omega, by (try dsimp only); omega⟩)) rfl (g [[2]] ?_);exact WP.againF (k + 1) hkl (by omega) ⟨rfl, rfl, rfl, rfl, rfl, trivial⟩ (fun _ h => h) (fun h => h)
  try simp only [zq] at c41
  obtain rfl : k = b.seen.length := by omega
  refine g [[6],[2,1,2]] ?_;refine WL.cl rfl (fun w hI => znG _ _) (g [[3],[2,2]] ?_);refine WL.so SO.makeMap rfl ?_;rintro _ _ _ ⟨b84, hb84, rfl, rfl, rfl⟩;refine g [[1]] ?_;refine WL.so (SO.box rfl rfl) rfl (zw fun b86 hb86 => ?_);refine g [[5],[5,10,2]] ?_;refine WL.yd (Yd.mul rfl rfl (wr64 (by omega))) rfl (WL.know 91 (nt (watN b)) rfl (congrArg it hwat) (g [[4]] ?_));refine WC.loop (fun k : Nat => [(2, pt b2), (10, pt b86), (91, nt (watN b)), (92, nt k)]) (fun k => [(b86, watO b ⟨⟨ba, b.seen.length, bc⟩, ml⟩ (orF (fun _ => true) k) (orF (fun p : Nat => decide ((p : Int) % b.wide = 0)) k) (orF (fun p : Nat => decide ((p : Int) % b.wide = b.wide - 1)) k) b84), (b84, .map #[] 0), (b2, .cells (List.toArray [it b.wide, it b.deep, it b.speed, it b.last, .slice ba b.seen.length bc]) 56 (0, 0))]) (fun _ => D) (fun k => k ≤ watN b) (fun k => watN b - k) 0 (Nat.zero_le _) (fun a w ha => y4 ha ⟨rfl, rfl, rfl, rfl, trivial⟩) ?_;intro k hk;refine g [[1],[5,2,10,91,92]] ?_;refine WC.cond rfl (fun c93 => ?_) (fun c93 => ?_)
  · try simp only [zq] at c93
    have hk2 : k < watN b := by omega
    refine g [[5],[6,2,10,91,92],[0,11,2,10,91,92],[3006],[5]] ?_;refine WQ.q rfl (Yd.qt (Yd.shlG (.inl rfl) (a := 1) (by rw [Nat.one_mul]; exact zna (by omega)) (by omega) rfl rfl)) rfl (g [[1]] ?_);refine WL.know 100 (ut (2 ^ k)) rfl (congrArg (fun n : Nat => ut n) (Nat.one_mul _)) (WL.yd (Yd.orG (.inl rfl) (lt63 (znu (fun _ => true) k) (by omega)) (zna (by omega)) rfl rfl) rfl (g [[8],[4,11,2,10,91,92]] ?_));refine WL.yd (Yd.rem rfl rfl (by (try dsimp only); omega) (by (try dsimp only); omega)) rfl (g [[4]] ?_);refine WC.cond rfl (fun c104 => ?_) (fun c104 => ?_)
    · try simp only [zq] at c104
      refine g [[0,11,2,10,91,92],[3006],[5]] ?_;refine WQ.q rfl (Yd.qt (Yd.shlG (.inl rfl) (a := 1) (by rw [Nat.one_mul]; exact zna (by omega)) (by omega) rfl rfl)) rfl (g [[1]] ?_);refine WL.know 115 (ut (2 ^ k)) rfl (congrArg (fun n : Nat => ut n) (Nat.one_mul _)) (WL.yd (Yd.orG (.inl rfl) (lt63 (znu (fun p : Nat => decide ((p : Int) % b.wide = 0)) k) (by omega)) (zna (by omega)) rfl rfl) rfl (g [[8],[0,11,2,10,91,92],[3007],[3]] ?_));refine WQ.q rfl (Yd.qt (Yd.rem rfl rfl (by (try dsimp only); omega) (by (try dsimp only); omega))) rfl (g [[2]] ?_);refine WQ.q rfl (Yd.qt (Yd.sub rfl rfl (wr64 ⟨by (try dsimp only); omega, by (try dsimp only); omega⟩))) rfl (g [[5]] ?_);refine WC.cond rfl (fun c119 => ?_) (fun c119 => ?_)
      · try simp only [zq] at c119
        refine g [[0,11,2,10,91,92],[3006],[5]] ?_;refine WQ.q rfl (Yd.qt (Yd.shlG (.inl rfl) (a := 1) (by rw [Nat.one_mul]; exact zna (by omega)) (by omega) rfl rfl)) rfl (g [[1]] ?_);refine WL.know 133 (ut (2 ^ k)) rfl (congrArg (fun n : Nat => ut n) (Nat.one_mul _)) (WL.yd (Yd.orG (.inl rfl) (lt63 (znu (fun p : Nat => decide ((p : Int) % b.wide = b.wide - 1)) k) (by omega)) (zna (by omega)) rfl rfl) rfl (g [[7],[1,2,10,91,92]] ?_));refine WL.yd (Yd.add rfl rfl (wr64 ⟨by (try dsimp only); omega, by (try dsimp only); omega⟩)) rfl (g [[2]] ?_);refine WP.again (k + 1) hk2 (by omega) (fun a w ha => ?_);rw [zn6 (f := (fun _ => true)) (k := k) rfl, zn6 (f := (fun p : Nat => decide ((p : Int) % b.wide = 0))) (by simp_all), zn6 (f := (fun p : Nat => decide ((p : Int) % b.wide = b.wide - 1))) (by simp_all)];exact y4 ha ⟨rfl, rfl, rfl, rfl, trivial⟩
      try simp only [zq] at c119
      refine g [[4],[1,2,10,91,92]] ?_;refine WL.yd (Yd.add rfl rfl (wr64 ⟨by (try dsimp only); omega, by (try dsimp only); omega⟩)) rfl (g [[2]] ?_);refine WP.again (k + 1) hk2 (by omega) (fun a w ha => ?_);rw [zn6 (f := (fun _ => true)) (k := k) rfl, zn6 (f := (fun p : Nat => decide ((p : Int) % b.wide = 0))) (by simp_all), zpA (f := (fun p : Nat => decide ((p : Int) % b.wide = b.wide - 1))) (by simp_all)];exact y4 ha ⟨rfl, rfl, rfl, rfl, trivial⟩
    try simp only [zq] at c104
    refine g [[5],[0,11,2,10,91,92],[3007],[3]] ?_;refine WQ.q rfl (Yd.qt (Yd.rem rfl rfl (by (try dsimp only); omega) (by (try dsimp only); omega))) rfl (g [[2]] ?_);refine WQ.q rfl (Yd.qt (Yd.sub rfl rfl (wr64 ⟨by (try dsimp only); omega, by (try dsimp only); omega⟩))) rfl (g [[5]] ?_);refine WC.cond rfl (fun c119 => ?_) (fun c119 => ?_)
    · try simp only [zq] at c119
      refine g [[0,11,2,10,91,92],[3006],[5]] ?_;refine WQ.q rfl (Yd.qt (Yd.shlG (.inl rfl) (a := 1) (by rw [Nat.one_mul]; exact zna (by omega)) (by omega) rfl rfl)) rfl (g [[1]] ?_);refine WL.know 133 (ut (2 ^ k)) rfl (congrArg (fun n : Nat => ut n) (Nat.one_mul _)) (WL.yd (Yd.orG (.inl rfl) (lt63 (znu (fun p : Nat => decide ((p : Int) % b.wide = b.wide - 1)) k) (by omega)) (zna (by omega)) rfl rfl) rfl (g [[7],[1,2,10,91,92]] ?_));refine WL.yd (Yd.add rfl rfl (wr64 ⟨by (try dsimp only); omega, by (try dsimp only); omega⟩)) rfl (g [[2]] ?_);refine WP.again (k + 1) hk2 (by omega) (fun a w ha => ?_);rw [zn6 (f := (fun _ => true)) (k := k) rfl, zpA (f := (fun p : Nat => decide ((p : Int) % b.wide = 0))) (by simp_all), zn6 (f := (fun p : Nat => decide ((p : Int) % b.wide = b.wide - 1))) (by simp_all)];exact y4 ha ⟨rfl, rfl, rfl, rfl, trivial⟩
    try simp only [zq] at c119
    refine g [[4],[1,2,10,91,92]] ?_;refine WL.yd (Yd.add rfl rfl (wr64 ⟨by (try dsimp only); omega, by (try dsimp only); omega⟩)) rfl (g [[2]] ?_);refine WP.again (k + 1) hk2 (by omega) (fun a w ha => ?_);rw [zn6 (f := (fun _ => true)) (k := k) rfl, zpA (f := (fun p : Nat => decide ((p : Int) % b.wide = 0))) (by simp_all), zpA (f := (fun p : Nat => decide ((p : Int) % b.wide = b.wide - 1))) (by simp_all)];exact y4 ha ⟨rfl, rfl, rfl, rfl, trivial⟩
  try simp only [zq] at c93
  obtain rfl : k = watN b := by omega
  refine g [[6]] ?_;refine WC.freezeN 0 b86 (watX b ⟨⟨ba, b.seen.length, bc⟩, ml⟩ b84) rfl rfl hb86 (fun D86 hX86 h86 => ?_);refine g [[6,10]] ?_;refine WP.ret1 rfl rfl rfl (RV.tmp rfl) (fun w1 hI => ⟨_, _, [(b84, .map #[] 0)], rfl, hX86, hI.sub zU1 (zU3 hI.nodup), b86, b84, rfl, h86, rfl⟩)
theorem zrY (b : xb) (back : Bool) : (mntL b back).length = (b.last + 1).toNat := by simp [mntL]
theorem zrC {b : xb} {back : Bool} {k : Nat} (hk : k < (b.last + 1).toNat) : gt (mntL b back) k = if back then b.last.toNat - k else k := by
  simp [gt, mntL, List.getD, hk]
theorem zrV (q : Nat) (back : Bool) (D : Imm) (w : World) (hH : Holds D w) : y6 Tryz.prog 212 [pt q, .bool back] w D (fun v D' => ∃ b c, v = .func (.func 239) #[] #[pt b, pt c] ∧ D' b = some (.cells (List.toArray [pt q]) 188 (0, 0)) ∧ D' c = some (.cells (List.toArray [.bool back]) 4 (0, 0))) := by
  unfold y6;refine en Tryz.func212 rfl Tryz.ntmps212 (Inv.start hH) (g [[1],[1,0,1]] ?_);refine WL.so (SO.box rfl rfl) rfl (zw fun b2 hb2 => ?_);refine WL.so (SO.box rfl rfl) rfl (zw fun b3 hb3 => ?_);refine g [[4]] ?_;refine WC.freezeN 1 b2 (.cells (List.toArray [pt q]) 188 (0, 0)) rfl rfl hb2 (fun D1 hX1 h2 => ?_);refine WC.freezeN 0 b3 (.cells (List.toArray [.bool back]) 4 (0, 0)) rfl rfl hb3 (fun D2 hX2 h3 => ?_);refine g [[6,4,3,2]] ?_;refine WP.ret1 rfl rfl rfl (RV.tmp rfl) (fun w1 hI => ⟨_, D2, rfl, hI.keep, hI.imm, hX1.trans hX2 (Nat.le_refl _), b2, b3, rfl, hX2.old _ _ h2, h3⟩)
theorem zpw (b : xb) (m : k4) (hok : xv b) (back : Bool) (qb mb bs bc_ : Nat) (D : Imm) (hq : D qb = some (watX b m mb)) (hbs : D bs = some (.cells (List.toArray [pt qb]) 188 (0, 0))) (hbc : D bc_ = some (.cells (List.toArray [.bool back]) 4 (0, 0))) (w : World) : V9 Tryz.prog 239 [pt bs, pt bc_] (b.last + 1).toNat (fun k => nt (gt (mntL b back) k)) D w := by
  have hb := bnum hok;have hl := hok.last;have hlast : b.last + 1 = (((b.last + 1).toNat : Nat) : Int) := by omega
  intro ly St Sp hSm hround h0 hS0 hI0;unfold zp;refine en Tryz.func239 rfl Tryz.ntmps239 hI0 (WC.scope (g [[1]] ?_));refine WC.label (g [[2],[7,0,1,2]] ?_);refine WL.know 10 (nt (b.last + 1).toNat) rfl (congrArg it hlast) (g [[4]] ?_);refine WC.loop (fun y : Nat × Imm × Hp => [(0, .func (.yield ly) #[] #[]), (1, pt bs), (2, pt bc_), (10, nt (b.last + 1).toNat), (11, nt y.1)]) (fun y => y.2.2) (fun y => y.2.1) (fun y => y.1 ≤ (b.last + 1).toNat ∧ DExt w D y.2.1 ∧ St y.1 y.2.1 y.2.2) (fun y => (b.last + 1).toNat - y.1) (0, D, h0) ⟨Nat.zero_le _, DExt.refl _ _, hS0⟩ (fun a w ha => y4 ha ⟨rfl, rfl, rfl, rfl, rfl, trivial⟩) ?_;rintro ⟨k, D1, h1⟩ ⟨hk, hX1, hS1⟩;dsimp only at hk hX1 hS1;have hq1 := hX1.old _ _ hq;have hbs1 := hX1.old _ _ hbs;have hbc1 := hX1.old _ _ hbc;refine g [[1],[5,0,1,2,10,11]] ?_;refine WC.cond rfl (fun c12 => ?_) (fun c12 => ?_)
  · try simp only [zq] at c12
    have hk2 : k < (b.last + 1).toNat := by omega
    refine g [[5],[5,0,1,2,10,11]] ?_;refine WC.seqJ (α := Unit) (fun _ => [(0, .func (.yield ly) #[] #[]), (1, pt bs), (2, pt bc_), (4, nt (gt (mntL b back) k)), (10, nt (b.last + 1).toNat), (11, nt k)]) (fun _ => h1) (fun _ => D1) (fun _ => True) ?_ ?_
    · rintro _ -;refine g [[1],[0,0,1,2,4,10,11]] ?_;refine WC.ofF (g [[3]] ?_);refine WLF.yieldN (l := ly) (vals := [nt (gt (mntL b back) k)]) [] h1 (fun _ h => h) (fun h => h) rfl rfl rfl (fun w' hsz hI => hround k D1 h1 w' hk2 hsz hX1 hS1 hI) ?_;rintro b24 D5 hp5 hK5 hX5;refine g [[3]] ?_;refine WC.cond rfl (fun c25 => ?_) (fun c25 => ?_)
      · try simp only [zq] at c25
        refine g [[5]] ?_;refine WP.scNormal ?_
        refine WP.ret0 rfl rfl rfl  (fun w1 hI => by
          obtain ⟨htt, _⟩ | ⟨_, hK5⟩ := hK5
          · exact Bool.noConfusion (htt.symm.trans c25)
          exact ⟨_, D5, hp5, rfl, hX1.trans hX5 (Nat.le_refl _), hI, .inr hK5⟩)
      try simp only [zq] at c25
      refine g [[3],[4,0,1,2,10,11]] ?_;obtain ⟨_, hK5⟩ | ⟨hff, _⟩ := hK5
      · exact WP.again (k + 1, D5, hp5) ⟨hk2, hX1.trans hX5 (Nat.le_refl _), hK5⟩ (by show (b.last + 1).toNat - (k + 1) < (b.last + 1).toNat - k; omega) (fun a w ha => y4 ha ⟨rfl, rfl, rfl, rfl, rfl, trivial⟩)
      exact Bool.noConfusion (hff.symm.trans c25)
    skip;refine g [[1],[4,4,0,1,2,10,11]] ?_;refine WC.cond rfl (fun c14 => ?_) (fun c14 => ?_)
    · refine g [[10,4,0,1,2,10,11]] ?_;exact WP.join () trivial (fun a w ha => y4 ha ⟨rfl, rfl, rfl, by rw [zrC hk2]; show some (it _) = some (it _); congr 2; rw [if_pos (by assumption)]; omega, rfl, rfl, trivial⟩)
    refine g [[1]] ?_;exact WP.join () trivial (fun a w ha => y4 ha ⟨rfl, rfl, rfl, by rw [zrC hk2]; show some (it _) = some (it _); congr 2; rw [if_neg (by rw [c14]; decide)], rfl, rfl, trivial⟩)
  try simp only [zq] at c12
  have hN : (b.last + 1).toNat = k := by omega
  refine g [[4]] ?_;refine WP.scNormal ?_;refine WP.ret0 rfl rfl rfl  (fun w1 hI => ⟨_, D1, h1, rfl, hX1, hI, .inl (by rw [hN]; exact hS1)⟩)
theorem zz2 : zj Tryz.prog 392 [.int .i64 0] [(0, 1)] := ⟨⟨_, Tryz.zeroValue392, rfl⟩, _, Tryz.underlying392, fun w => by simp [Tryz.sizeOf3]⟩
abbrev zx9 := SaF.mk zz2
attribute [instance] zx9
theorem zz3 : zj Tryz.prog 394 [.int .i64 0, .int .i64 0, .int .i64 0, .int .i64 0, .int .i64 0] [(0, 5)] := ⟨⟨_, Tryz.zeroValue394, rfl⟩, _, Tryz.underlying394, fun w => by simp [Tryz.sizeOf146]⟩
abbrev zxa := SaF.mk zz3
attribute [instance] zxa
def hldV : Hld → Value
  | .row n => .iface 392 (.agg #[nt n])
  | .sight s => .iface 394 (bsV s)
def hldC (x : Hld) : List Value := [hldV x]
theorem zqp : ∀ x, (hldC x).length = 1 := fun _ => rfl
instance : Inhabited Hld := ⟨.row 0⟩
def hldK (b : xb) (q : Qst) (i : Nat) : List Hld := .row q.row :: (znW q.without (gt b.seen q.boat) i).map .sight
section
variable {set : Nat} {l : List zms} {k : Nat} (hk : k < l.length)
include set l k hk
theorem ztx (h : hasN set k = false) : znW set l (k + 1) = znW set l k ++ [gt l k] := by
  rw [znW, wX hk]; dsimp only; rw [if_neg (by rw [h]; decide)]
theorem zvE (h : hasN set k = true) : znW set l (k + 1) = znW set l k := by
  rw [znW, wX hk]; dsimp only; rw [if_pos h, List.append_nil]
end
theorem zqw {set : Nat} {l : List zms} : ∀ k, (znW set l k).length ≤ k
  | 0 => Nat.le_refl _
  | k + 1 => by
    have := zqw (set := set) (l := l) k;rw [znW, List.length_append];split
    · split <;> simp <;> omega
    simp; omega
section
variable {b : xb} {q : Qst} {k : Nat} (hk : k < (gt b.seen q.boat).length)
include b q k hk
theorem ztp (h : hasN q.without k = false) : hldK b q (k + 1) = hldK b q k ++ [.sight (gt (gt b.seen q.boat) k)] := by
  unfold hldK; rw [ztx hk h, List.map_append]; rfl
theorem zvv (h : hasN q.without k = true) : hldK b q (k + 1) = hldK b q k := by unfold hldK; rw [zvE hk h]
end
theorem zqq (b : xb) (q : Qst) (k : Nat) : (hldK b q k).length ≤ k + 1 := by
  have := zqw (set := q.without) (l := gt b.seen q.boat) k;unfold hldK; rw [List.length_cons, List.length_map]; omega
theorem zvw (b : xb) (m : k4) (hok : xv b) (q : Qst) (hqb : q.boat < b.seen.length) (hqw : q.without < 2 ^ 60) (qb mb : Nat) (D : Imm) (hR : zmz D b m) (hq : D qb = some (watX b m mb)) (w : World) (hH : Holds D w) : y6 Tryz.prog 210 [pt qb, qstV q] w D (fun v D' => ∃ a n c, v = .slice a n c ∧ SlL D' 1 ((hldL b q).map hldC) a n) := by
  unfold y6;obtain ⟨⟨ba, bn, bc⟩, ml⟩ := m;have hml : ml.length = b.seen.length := hR.len;have hRs0 : SlL D 1 (ml.map slC) ba bn := hR.sl;obtain rfl : bn = b.seen.length := by have := hRs0.len'; omega
  have hRr : ∀ i, i < b.seen.length → SlL D 5 ((gt b.seen i).map bsC) (gt ml i).a (gt ml i).n := hR.row;have hRn : ∀ i, i < b.seen.length → (gt ml i).n ≤ 9223372036854775807 := hR.nr;have nb : b.seen.length ≤ 9223372036854775807 := hR.n;have hrow := hRr q.boat hqb;have hrn := hRn q.boat hqb;have hrl := (hok.rows _ (yE hqb)).1;obtain ⟨ra, rn, rc, hml2⟩ : ∃ ra rn rc, gt ml q.boat = ⟨ra, rn, rc⟩ := ⟨_, _, _, rfl⟩;rw [hml2] at hrow hrn;obtain rfl : rn = (gt b.seen q.boat).length := hrow.len';dsimp only at hrow hrn;refine en Tryz.func210 rfl Tryz.ntmps210 (Inv.start hH) (g [[1],[1,0,1]] ?_);refine WL.so (SO.box rfl rfl) rfl (zw fun b3 hb3 => ?_);refine g [[4],[5,4,3,0]] ?_;refine WL.so (SO.buildSlice1 UnF.h SzF.h ZvF.h rfl rfl rfl (vs := [_]) rfl rfl rfl) rfl ?_;rintro _ _ _ ⟨b12, hb12, rfl, rfl, rfl⟩;refine g [[5]] ?_;skip;refine g [[0,5,4,3,0]] ?_;refine WC.draw (pz [1,3,5,7,9,11,13,15,17,19,21]) zk zk zX (g [[7]] ?_);refine WA.yd rfl (Yd.indexS UnF.h SzF.h rfl rfl (by (try dsimp only); omega) (by (try dsimp only); omega) (hRs0.addr q.boat (by omega))) rfl ?_;refine WA.yd rfl (Yd.l1 rfl ((hRs0.at q.boat (by omega)).rd 0 rfl)) rfl (WA.know 21 (.slice ra (gt b.seen q.boat).length rc) rfl (congrArg slV hml2) (g [[5]] ?_));refine WC.loop (fun y : Nat × Ow => [(3, pt b3), (5, owV (some y.2) (hldK b q y.1).length), (21, .slice ra (gt b.seen q.boat).length rc), (22, nt (gt b.seen q.boat).length), (23, nt y.1)]) (fun y => ((b3, .cells (List.toArray (qstC q)) 202 (0, 0)) :: owH (some y.2) 363 ((hldK b q y.1).flatMap hldC) [])) (fun _ => D) (fun y => y.1 ≤ (gt b.seen q.boat).length ∧ owP w (some y.2) (hldK b q y.1).length 1) (fun y => (gt b.seen q.boat).length - y.1) (0, ⟨b12, 1, []⟩) ⟨Nat.zero_le _, hb12, Nat.le_refl _, rfl⟩ (fun a w ha => v6 ha ⟨rfl, rfl, rfl, rfl, rfl, trivial⟩ (List.Perm.swap _ _ _)) ?_;rintro ⟨i, o⟩ ⟨hi, ho⟩;dsimp only at hi ho;refine g [[1],[5,3,5,21,22,23]] ?_;refine WC.cond rfl (fun c24 => ?_) (fun c24 => ?_)
  · try simp only [zq] at c24
    have hi2 : i < (gt b.seen q.boat).length := by omega
    have hlk := zqq b q i;refine g [[5],[2,3,5,21,22,23]] ?_;refine WL.yd (Yd.indexS UnF.h SzF.h rfl rfl (by (try dsimp only); omega) (by (try dsimp only); omega) (hrow.addr i (by omega))) rfl ?_;refine WL.yd (Yd.lV [_, _, _, _, _] rfl ((hrow.at i (by omega)).rdn 0 5 rfl)) rfl ?_;refine WL.so (SO.alloc ZvF.h rfl) rfl (zw fun b7 hb7 => ?_);refine g [[5],[4,6,7,3,5,21,22,23]] ?_;refine WL.yd (Yd.shrG (.inr rfl) (by omega) rfl rfl) rfl (WL.yd (Yd.and1N rfl rfl) rfl (g [[3]] ?_));refine WC.cond rfl (fun c33 => ?_) (fun c33 => ?_)
    · try simp only [zq] at c33
      have hbit : hasN q.without i = false := by unfold hasN; rw [decide_eq_false_iff_not]; omega
      refine g [[5,7,3,5,21,22,23]] ?_;refine WL.so (SO.buildSlice1 UnF.h SzF.h ZvF.h rfl rfl rfl (vs := [_]) rfl rfl rfl) rfl ?_;rintro _ _ _ ⟨b38, hb38, rfl, rfl, rfl⟩;refine WL.so (SO.appendSome (o := o) (len := (hldK b q i).length) (n := 1) (xs := (hldK b q i).flatMap hldC) (ys := [hldV (.sight (gt (gt b.seen q.boat) i))]) (size := 1) [_, _, _] [] rfl rfl Tryz.underlying355 Tryz.sizeOf363 Tryz.typeInfo363 Tryz.zeroValue363 rfl rfl rfl rfl ⟨rfl, .inr ⟨_, _, _, rfl, RdN.own (k := 0) (n := 1) rfl rfl⟩⟩ (za rfl) ho (zr zqp _) (by show (2 * (_ + _) + 1000) * 16 ≤ 2 ^ 48; omega) (by omega)) rfl ?_;rintro _ _ _ ⟨u1, hu1, rfl, rfl, rfl⟩;refine g [[4],[1,5,3,21,22,23]] ?_;refine WL.yd (Yd.add rfl rfl (wr64 ⟨by (try dsimp only); omega, by (try dsimp only); omega⟩)) rfl (g [[2]] ?_);have hE := ztp hi2 hbit;refine WP.again (i + 1, u1) ⟨hi2, by rw [hE, List.length_append]; exact hu1⟩ (by show (gt b.seen q.boat).length - (i + 1) < (gt b.seen q.boat).length - i; omega) (fun a w ha => ?_);dsimp only;rw [hE, List.length_append, List.flatMap_append];exact zL 2 ha ⟨rfl, rfl, rfl, rfl, rfl, trivial⟩ (List.Perm.refl _)
    try simp only [zq] at c33
    have hbit : hasN q.without i = true := by unfold hasN; rw [decide_eq_true_iff]; omega
    refine g [[3],[1,3,5,21,22,23]] ?_;refine WL.yd (Yd.add rfl rfl (wr64 ⟨by (try dsimp only); omega, by (try dsimp only); omega⟩)) rfl (g [[2]] ?_);have hE := zvv hi2 hbit;refine WP.again (i + 1, o) ⟨hi2, by rw [hE]; exact ho⟩ (by show (gt b.seen q.boat).length - (i + 1) < (gt b.seen q.boat).length - i; omega) (fun a w ha => ?_);dsimp only;rw [hE];exact zL 1 ha ⟨rfl, rfl, rfl, rfl, rfl, trivial⟩ (List.Perm.refl _)
  try simp only [zq] at c24
  obtain rfl : i = (gt b.seen q.boat).length := by omega
  refine g [[6]] ?_;refine WC.freezeN 1 o.b (.cells ((hldL b q).flatMap hldC ++ o.rest).toArray 363 (0, 0)) rfl rfl ho.1 (fun D8 hX8 h8 => ?_);refine g [[6,5]] ?_;refine WP.ret1 rfl rfl rfl (RV.tmp rfl) (fun w1 hI => ⟨_, D8, rfl, hI.keep, hI.imm, hX8, some ⟨o.b, 0, none⟩, _, o.cap, rfl, SlL.ofBlock zqp h8⟩)
def logC (l : List Nat) : List Value := [ut (gt l 0), ut (gt l 1), ut (gt l 2), ut (gt l 3), ut (gt l 4), ut (gt l 5), ut (gt l 6), ut (gt l 7), ut (gt l 8), ut (gt l 9), ut (gt l 10), ut (gt l 11), ut (gt l 12)]
abbrev logV (l : List Nat) : Value := .agg (logC l).toArray
theorem zuu (l : List Nat) {i : Nat} (hi : i < 13) : (logC l)[i]? = some (ut (gt l i)) := by
  rcases (show i = 0 ∨ i = 1 ∨ i = 2 ∨ i = 3 ∨ i = 4 ∨ i = 5 ∨ i = 6 ∨ i = 7 ∨ i = 8 ∨ i = 9 ∨ i = 10 ∨ i = 11 ∨ i = 12 by omega) with rfl | rfl | rfl | rfl | rfl | rfl | rfl | rfl | rfl | rfl | rfl | rfl | rfl <;> rfl
theorem zuv (l : List Nat) {i : Nat} (hi : i < 13) : (logC l)[0 + i * 1]? = some (ut (gt l i)) := by rw [Nat.zero_add, Nat.mul_one]; exact zuu l hi
theorem VR {l : List Nat} {i j x : Nat} (hi : i < l.length) : gt (l.set i x) j = if j = i then x else gt l j := by
  unfold gt;rw [List.getD_eq_getElem?_getD, List.getD_eq_getElem?_getD, List.getElem?_set];by_cases e : i = j
  · subst e; simp [hi]
  rw [if_neg e, if_neg (fun h => e h.symm)]
theorem zrR {l : List Nat} (hl : l.length = 13) {i : Nat} (hi : i < 13) (x : Nat) : splice (logC l) (0 + i * 1) [ut x] = logC (l.set i x) := by
  have h13 : i < l.length := by omega
  unfold logC;simp only [VR h13];rcases (show i = 0 ∨ i = 1 ∨ i = 2 ∨ i = 3 ∨ i = 4 ∨ i = 5 ∨ i = 6 ∨ i = 7 ∨ i = 8 ∨ i = 9 ∨ i = 10 ∨ i = 11 ∨ i = 12 by omega) with rfl | rfl | rfl | rfl | rfl | rfl | rfl | rfl | rfl | rfl | rfl | rfl | rfl <;> rfl
theorem zqB : ∀ x y : Qst, qstV x = qstV y → x = y := by
  rintro ⟨a, b, c, d⟩ ⟨a', b', c', d'⟩ h;simp at h;obtain ⟨h1, h2, h3, h4⟩ := h;have e1 : a = a' := by omega
  have e2 : b = b' := by omega
  have e3 : c = c' := by omega
  have e4 : d = d' := by omega
  subst e1; subst e2; subst e3; subst e4; rfl
theorem zxI : Tryz.prog.keyType 202 = true := by kernel_rfl
theorem qstK : Go.Maps.Keyed Tryz.prog 202 := Go.Maps.Keyed.of_law (deep_law_gate zo6 (Nat.le_of_ble_eq_true zk) (Nat.le_of_ble_eq_true zk) zxI zk)
theorem zvI {q : Qst} (h1 : zmn (q.boat : Int)) (h2 : zmn (q.without : Int)) (h3 : zmn (q.row : Int)) (h4 : zmn (q.speed : Int)) : ∃ l, keyOf Tryz.prog 202 (qstV q) = some l := by
  have hc : Tryz.prog.cellsOf 202 = 4 := by kernel_rfl
  have h1c : Tryz.prog.cellsOf 3 = 1 := by kernel_rfl
  have hs : Tryz.prog.types.size + 1 = 451 + 3 := by kernel_rfl
  unfold keyOf;rw [Tryz.underlying202];have hf : (qstV q).formed Tryz.prog 202 = true := by simp [qstV, Value.formed, Tryz.underlying202, hc]
  simp only [zxI, hf, Bool.and_self, if_true, hs]
  have hl : Tryz.prog.keyLits (451 + 3) 202 (qstC q) = some [.int .i64 (q.boat : Int), .int .i64 (q.without : Int), .int .i64 (q.row : Int), .int .i64 (q.speed : Int)] := by
    unfold Program.keyLits;simp only [Tryz.underlying202, hc];simp [h1c, zoz, h1, h2, h3, h4]
  show ∃ l, (Tryz.prog.keyLits (451 + 3) 202 (qstC q)).map _ = some l;rw [hl];exact ⟨_, rfl⟩
theorem zwu (n : Nat) (hn : n ≤ 10) (D : Imm) (w : World) (hH : Holds D w) : y6 Tryz.prog 109 [nt n] w D (fun v D' => ∃ a c, v = .slice a (n + 1) c ∧ SlL D' 1 ((uptL n).map ntC) a (n + 1)) := by
  unfold y6;refine en Tryz.func109 rfl Tryz.ntmps109 (Inv.start hH) (g [[1],[6,0],[2,2,0]] ?_);refine WL.yd (Yd.addN (i := n) (j := 1) rfl rfl (by omega)) rfl (g [[4]] ?_);refine WC.loop (fun y : Nat × Option Ow => [(2, owV y.2 y.1), (5, nt (n + 1)), (6, nt y.1)]) (fun y => (owH y.2 3 ((List.range y.1).flatMap ntC) [])) (fun _ => D) (fun y => y.1 ≤ n + 1 ∧ owP w y.2 y.1 1) (fun y => n + 1 - y.1) (0, none) ⟨Nat.zero_le _, rfl⟩ (fun a w ha => y4 ha ⟨rfl, rfl, rfl, trivial⟩) ?_;rintro ⟨k, o⟩ ⟨hk, ho⟩;dsimp only at hk ho;refine g [[1],[5,2,5,6]] ?_;refine WC.cond rfl (fun c7 => ?_) (fun c7 => ?_)
  · try simp only [zq] at c7
    have hk2 : k < n + 1 := by omega
    refine g [[5],[5,2,5,6],[3,3,2,5,6]] ?_;refine WL.so (SO.buildSlice1 UnF.h SzF.h ZvF.h rfl rfl rfl (vs := [_]) rfl rfl rfl) rfl ?_;rintro _ _ _ ⟨b11, hb11, rfl, rfl, rfl⟩;refine WL.so (SO.appendOw (o := o) (len := k) (n := 1) (xs := (List.range k).flatMap ntC) (ys := [nt k]) (size := 1) [_] [] [] rfl rfl Tryz.underlying31 Tryz.sizeOf3 Tryz.typeInfo3 Tryz.zeroValue3 rfl rfl rfl rfl ⟨rfl, .inr ⟨_, _, _, rfl, RdN.own (k := 0) (n := 1) rfl rfl⟩⟩ (za rfl) ho (by rw [zr zok, List.length_range]) (by omega) (by show (2 * (_ + _) + 1000) * 8 ≤ 2 ^ 48; omega) (by omega)) rfl ?_;rintro _ _ _ ⟨u1, hu1, rfl, rfl, rfl⟩;refine g [[4],[4,2,5,6]] ?_;refine WP.again (k + 1, some u1) ⟨hk2, hu1⟩ (by show n + 1 - (k + 1) < n + 1 - k; omega) (fun a w ha => ?_);dsimp only;rw [List.range_succ, List.flatMap_append];exact y4 ha ⟨rfl, rfl, rfl, trivial⟩
  try simp only [zq] at c7
  obtain rfl : k = n + 1 := by omega
  obtain ⟨u, rfl⟩ : ∃ u, o = some u := by
    cases o with
    | none => exact absurd ho (Nat.succ_ne_zero n)
    | some u => exact ⟨u, rfl⟩
  refine g [[6]] ?_;refine WC.freezeN 0 u.b (.cells ((uptL n).flatMap ntC ++ u.rest).toArray 3 (0, 0)) rfl rfl ho.1 (fun D8 hX8 h8 => ?_);refine g [[6,2]] ?_;refine WP.ret1 rfl rfl rfl (RV.tmp rfl) (fun w1 hI => ⟨_, D8, rfl, hI.keep, hI.imm, hX8, some ⟨u.b, 0, none⟩, u.cap, rfl, by have := SlL.ofBlock (l := uptL n) zok h8; rw [show (uptL n).length = n + 1 from List.length_range] at this; exact this⟩)
def hldT : Hld → TypeId
  | .row _ => 392
  | .sight _ => 394
def hldA : Hld → Value
  | .row n => .agg #[nt n]
  | .sight s => bsV s
def hldF : Hld → FuncId
  | .row _ => 301
  | .sight _ => 303
theorem zxB (x : Hld) : hldV x = .iface (hldT x) (hldA x) := by cases x <;> rfl
theorem ztq (x : Hld) : ∀ args w, (callFunc (hldF x) args).run Tryz.prog w = .ok (.enter (hldF x) args) w := by
  cases x
  · exact Tryz.call301
  exact Tryz.call303
theorem ztr (x : Hld) (w : World) : (method (Tryz.prog.types.size + Made.depth) (hldT x) (hldA x) "dipworks/boat.at").run Tryz.prog w = .ok (hldF x, hldA x) w := by
  cases x
  · show (method (Tryz.prog.types.size + Made.depth) 392 (.agg #[nt _]) "dipworks/boat.at").run Tryz.prog w = _;kernel_rfl
  show (method (Tryz.prog.types.size + Made.depth) 394 (bsV _) "dipworks/boat.at").run Tryz.prog w = _;kernel_rfl
def zuT (b : xb) : Hld → Prop
  | .row n => n ≤ 7
  | .sight s => znN b s
theorem zs9 : ∀ (l : List Nat) (a : Nat), (∀ x ∈ l, x < 2 ^ 48) → a < 2 ^ 48 → ORF l a < 2 ^ 48
  | [], _, _, h => h
  | x :: l, a, hl, h => zs9 l _ (fun y hy => hl y (List.mem_cons_of_mem _ hy)) (Nat.or_lt_two_pow h (hl x List.mem_cons_self))
theorem zuB {a b : Int} {r : Int} (h : r ∈ rng a b) : a ≤ r ∧ r ≤ b := by
  unfold rng at h;obtain ⟨i, hi, rfl⟩ := List.mem_map.1 h;have := List.mem_range.1 hi;omega
theorem zyf {b : xb} (hok : xv b) {s : zms} (hs : znN b s) (k : Nat) : sgtN b s k < 2 ^ 48 := by
  by_cases h : (k : Int) = s.minute
  · rw [zuH h];refine zs9 _ _ (fun x hx => ?_) (by decide);unfold sgR at hx;rw [List.drop_zero] at hx;obtain ⟨r, hr, hx⟩ := List.mem_flatMap.1 hx;obtain ⟨c, hc, rfl⟩ := List.mem_map.1 hx;have h1 := zuB hr;have h2 := zuB hc;have h3 := zmU.1 hs.rows;have h4 := zmU.1 hs.cols;exact Nat.pow_lt_pow_right (by decide) (zrn hok (r := r) (c := c) (by omega) (by omega)).2.2.1
  rw [zuI h]; exact zoq hok
theorem zxA {b : xb} (hok : xv b) {x : Hld} (hx : zuT b x) (k : Nat) : hatN b x k < 2 ^ 48 := by
  cases x with
  | row n => exact zuC hok n
  | sight s => exact zyf hok hx k
theorem zzc (x : Hld) (k : Nat) {b : xb} (hx : zuT b x) (m : k4) (hok : xv b) (qb mb : Nat) (D : Imm) (hq : D qb = some (watX b m mb)) (w : World) (hH : Holds D w) : z8 Tryz.prog (hldF x) [hldA x, pt qb, nt k] w (ut (hatN b x k)) := by
  cases x with
  | row n => exact zw5 n k hx b m hok qb mb D hq w hH
  | sight s => exact zu1 b s k hx m hok qb mb D hq w hH
theorem zqx {set : Nat} {l : List zms} : ∀ (k : Nat) (x : zms), x ∈ znW set l k → x ∈ l
  | 0, x, h => nomatch h
  | k + 1, x, h => by
    rw [znW, List.mem_append] at h;rcases h with h | h
    · exact zqx k x h
    split at h
    · rename_i y hy
      split at h
      · cases h
      rw [List.mem_singleton.1 h]; exact List.mem_of_getElem? hy
    cases h
theorem zuq {b : xb} (hok : xv b) {q : Qst} (hqb : q.boat < b.seen.length) (hr : q.row ≤ 7) : ∀ x ∈ hldL b q, zuT b x := fun x hx => by
  rcases List.mem_cons.1 hx with rfl | hx
  · exact hr
  obtain ⟨s, hs, rfl⟩ := List.mem_map.1 hx;exact zq6 _ 0 (Int.le_refl _) (hok.rows _ (yE hqb)).2 s (zqx _ _ hs)
def MapQ (b : xb) (mb : Nat) (hp : Hp) : Prop := ∃ es clock F, hp = [(mb, .map es clock)] ∧ MapG Tryz.prog 202 qstV logV es F ∧ ∀ q l, F q = some l → l = flwL b q
def mntA (b : xb) (hs : List Hld) (speed : Nat) (back : Bool) (out : List Nat) (k : Nat) : List Nat × Nat := ((mntL b back).take k).foldl (mntF b hs speed) (out, allN b)
section
variable {b : xb} {hs : List Hld} {speed : Nat}
include b hs speed
theorem zrX {back : Bool} {out : List Nat} {k : Nat} (hk : k < (mntL b back).length) : mntA b hs speed back out (k + 1) = mntF b hs speed (mntA b hs speed back out k) (gt (mntL b back) k) := by
  unfold mntA; rw [zP hk, List.foldl_append]; rfl
theorem ztI (s : List Nat × Nat) (m : Nat) : (mntF b hs speed s m).1.length = s.1.length := by
  unfold mntF; exact List.length_set ..
theorem zqy {back : Bool} {out : List Nat} (k : Nat) : (mntA b hs speed back out k).1.length = out.length := by
  have key : ∀ (l : List Nat) (s : List Nat × Nat), (l.foldl (mntF b hs speed) s).1.length = s.1.length := by
    intro l
    induction l with
    | nil => exact fun _ => rfl
    | cons m l ih => exact fun s => (ih _).trans (ztI s m)
  exact key _ _
end
theorem zqf {a c : Nat} (h : a < 2 ^ 48) : a &&& c < 2 ^ 48 := Nat.lt_of_le_of_lt Nat.and_le_left h
theorem zrK {b : xb} (hok : xv b) : ∀ (n a : Nat), a < 2 ^ 48 → zpV (steN b) n a < 2 ^ 48
  | 0, _, h => h
  | n + 1, a, _ => zrK hok n _ (zuJ hok a)
def znQ (s : List Nat) : Prop := ∀ i, gt s i < 2 ^ 48
theorem zyc {l : List Nat} (h : znQ l) {i x : Nat} (hx : x < 2 ^ 48) : znQ (l.set i x) := fun j => by
  by_cases hi : i < l.length
  · rw [VR hi]; split
    · exact hx
    exact h j
  rw [List.set_eq_of_length_le (by omega)]; exact h j
theorem zvQ {b : xb} (hok : xv b) {hs : List Hld} {speed : Nat} {s : List Nat × Nat} (h : znQ s.1 ∧ s.2 < 2 ^ 48) (m : Nat) : znQ (mntF b hs speed s m).1 ∧ (mntF b hs speed s m).2 < 2 ^ 48 := by
  unfold mntF;exact ⟨zyc h.1 (zqf (h.1 m)), zrK hok _ _ (zqf (h.1 m))⟩
theorem zrW {b : xb} (hok : xv b) {hs : List Hld} {speed : Nat} {back : Bool} {out : List Nat} (h : znQ out) (k : Nat) : znQ (mntA b hs speed back out k).1 ∧ (mntA b hs speed back out k).2 < 2 ^ 48 := by
  have key : ∀ (l : List Nat) (s : List Nat × Nat), znQ s.1 ∧ s.2 < 2 ^ 48 → znQ (l.foldl (mntF b hs speed) s).1 ∧ (l.foldl (mntF b hs speed) s).2 < 2 ^ 48 := by
    intro l
    induction l with
    | nil => exact fun _ h => h
    | cons m l ih => exact fun s h => ih _ (zvQ hok h m)
  exact key _ _ ⟨h, zoq hok⟩
theorem zy0 {b : xb} (hok : xv b) (n : Nat) : znQ (List.replicate n (allN b)) := fun i => by
  by_cases h : i < n
  · have : gt (List.replicate n (allN b)) i = allN b := by simp [gt, List.getD, h]
    rw [this]; exact zoq hok
  have : gt (List.replicate n (allN b)) i = 0 := by simp [gt, List.getD, h]
  rw [this]; decide
def pasN (b : xb) (q : Qst) : Nat → List Nat
  | 0 => List.replicate 13 (allN b)
  | i + 1 => pasF b q (decide (i = 1)) (pasN b q i)
theorem zq3 (b : xb) (q : Qst) : ∀ i, (pasN b q i).length = 13
  | 0 => List.length_replicate
  | i + 1 => by
    show ((mntL b _).foldl (mntF b (hldL b q) q.speed) (pasN b q i, allN b)).1.length = 13;have := zqy (b := b) (hs := hldL b q) (speed := q.speed) (back := decide (i = 1)) (out := pasN b q i) (mntL b (decide (i = 1))).length;unfold mntA at this;rw [List.take_length] at this;rw [this]; exact zq3 b q i
theorem zsc {b : xb} (hok : xv b) (q : Qst) : ∀ i, znQ (pasN b q i)
  | 0 => zy0 hok 13
  | i + 1 => by
    have := (zrW hok (hs := hldL b q) (speed := q.speed) (back := decide (i = 1)) (zsc hok q i) (mntL b (decide (i = 1))).length).1;unfold mntA at this;rw [List.take_length] at this;exact this
theorem zsd (b : xb) (q : Qst) : pasN b q 2 = flwL b q := rfl
def repL (a i : Nat) : List Nat := List.replicate i a ++ List.replicate (13 - i) 0
theorem zw2 (a : Nat) {i : Nat} (hi : i < 13) : (repL a i).set i a = repL a (i + 1) := by
  rcases (show i = 0 ∨ i = 1 ∨ i = 2 ∨ i = 3 ∨ i = 4 ∨ i = 5 ∨ i = 6 ∨ i = 7 ∨ i = 8 ∨ i = 9 ∨ i = 10 ∨ i = 11 ∨ i = 12 by omega) with rfl | rfl | rfl | rfl | rfl | rfl | rfl | rfl | rfl | rfl | rfl | rfl | rfl <;> rfl
theorem UF (a : Nat) {i : Nat} (hi : i ≤ 13) : (repL a i).length = 13 := by simp [repL]; omega
section
variable {b : xb} {F : Qst → Option (List Nat)} (hF : ∀ q l, F q = some l → l = flwL b q) {q : Qst}
include b F hF q
theorem zvh (h : (F q).isSome = true) : (F q).getD [] = flwL b q := by
  cases hc : F q with
  | none => rw [hc] at h; cases h
  | some l => exact hF q l hc
theorem zvi : ∀ q' l, putG F q (flwL b q) q' = some l → l = flwL b q' := fun q' l h => by
  unfold putG at h;split at h
  · rename_i e; subst e; cases h; rfl
  exact hF q' l h
end
theorem zum (A M : Hp) : (∀ y, y ∈ M ++ A → y ∈ A ++ M) ∧ ((keys (A ++ M)).Nodup → (keys (M ++ A)).Nodup) :=
  ⟨fun y hy => (List.perm_append_comm (l₁ := M) (l₂ := A)).mem_iff.1 hy, fun h => ((List.perm_append_comm (l₁ := A) (l₂ := M)).map Prod.fst).nodup_iff.1 h⟩
theorem zza {i : Nat} (hi : i < 2) : ([.bool false, .bool true] : List Value)[0 + i * 1]? = some (.bool (decide (i = 1))) := by
  rcases (show i = 0 ∨ i = 1 by omega) with rfl | rfl <;> rfl
section
variable (b : xb) (m : k4) (hok : xv b) (qb mb : Nat) (D : Imm) (hR : zmz D b m) (hq : D qb = some (watX b m mb)) (q : Qst) (hqb : q.boat < b.seen.length) (hqw : q.without = 0) (hqr : q.row ≤ 7) (hqs : q.speed ≤ 3) (w : World) (hp0 : Hp) (hMM : MapQ b mb hp0) (hI0 : Inv D hp0 [mb] w w)
include b m hok qb mb D hR hq q hqb hqw hqr hqs w hp0 hMM hI0
theorem zpo : zp Tryz.prog 176 [pt qb, qstV q] w D [mb] (fun v D' hp' => D = D' ∧ v = logV (flwL b q) ∧ MapQ b mb hp') := by
  unfold zp;obtain ⟨es, clock, F, rfl, hM, hF⟩ := hMM;have hbn := hok.n;have hhl : (hldL b q).length ≤ (gt b.seen q.boat).length + 1 := zqq b q _;have hrl := (hok.rows _ (yE hqb)).1;obtain ⟨lk, hkey⟩ := zvI (q := q) ⟨by omega, by omega⟩ ⟨by omega, by omega⟩ ⟨by omega, by omega⟩ ⟨by omega, by omega⟩;refine enM Tryz.func176 rfl Tryz.ntmps176 hI0 (g [[1],[1,0,1]] ?_);refine WL.so (SO.box rfl rfl) rfl (zw fun b2 hb2 => ?_);refine WL.so (SO.box rfl rfl) rfl (zw fun b3 hb3 => ?_);refine WL.so (SO.alloc ZvF.h rfl) rfl (zw fun b4 hb4 => ?_);refine g [[4],[0,4,3,2]] ?_;refine WC.drawH [_, _, _, _] zk zHl (g [[1000],[1001],[1002],[1003],[1004]] ?_);refine WH.yd (i := 5) zk zX rfl (Yd.lookGOk (kv := qstV) (vv := logV) (y := q) zqB qstK UnF.h ZvF.h rfl hkey rfl (j := 3) rfl hM) rfl ?_;refine WH.know 23 (.tuple #[logV ((F q).getD []), .bool (F q).isSome]) rfl (by cases F q <;> rfl) (g [[1006],[1007],[1008]] ?_);refine WH.one (i := 9) zk (WHo.so rfl (SO.alloc ZvF.h rfl) rfl ?_);rintro _ _ _ ⟨b5, hb5, rfl, rfl, rfl⟩;refine ⟨(fun _ hI => hI.drop 1), ?_⟩;refine WH.one (i := 10) zk (WHo.so rfl (SO.store 0 rfl SzF.h rfl rfl rfl rfl (zqb rfl) (za rfl)) rfl ?_);rintro _ _ _ ⟨rfl, rfl, rfl⟩;refine ⟨(fun _ hI => hI.drop 1), ?_⟩;refine g [[1011]] ?_;refine WH.nil zk (g [[2],[4,6,5,4,3,2]] ?_);refine WC.cond rfl (fun c26 => ?_) (fun c26 => ?_)
  · refine g [[1],[2,5,4,3,2]] ?_;refine WL.so (SO.store 1 rfl SzF.h rfl rfl rfl rfl (zqb rfl) (za rfl)) rfl ?_;rintro _ _ _ ⟨rfl, rfl, e2_⟩;obtain rfl := e2_.symm;refine g [[4]] ?_;refine WP.retMs [] [_, _, _, _, _] [_] [_] rfl rfl (fun _ h => h) (fun h => h) rfl zV (fun w1 hI => ⟨_, D, [(mb, .map es clock)], rfl, DExt.refl _ _, hI.drop 4, rfl, by show logV _ = _; rw [zvh hF (by assumption)], es, clock, F, rfl, hM, hF⟩)
  refine g [[3],[3,4,3,2]] ?_;refine WL.so (SO.makes (Enters.func Tryz.call210 rfl) (fun w1 hI => zvw b m hok q hqb (by omega) qb mb D hR hq w1 hI.imm)) rfl ?_;rintro _ D1 _ ⟨hX1, ⟨ah, nh, ch, rfl, hSH⟩, rfl⟩;have hq1 := hX1.old _ _ hq;refine WL.so (SO.alloc ZvF.h rfl) rfl (zw fun b7 hb7 => ?_);refine WL.so (SO.store 0 rfl SzF.h rfl rfl rfl rfl (zqb rfl) (za rfl)) rfl ?_;rintro _ _ _ ⟨rfl, rfl, e2_⟩;obtain rfl := e2_.symm;refine g [[3],[1,7,4,3,2]] ?_;refine WL.so (SO.alloc ZvF.h rfl) rfl (zw fun b8 hb8 => ?_);refine g [[4],[5,8,7,4,3,2]] ?_;refine WC.loop (fun i : Nat => [(2, pt b2), (3, pt b3), (4, pt b4), (7, pt b7), (8, pt b8), (31, nt i)]) (fun i => [(b8, .cells (List.toArray (logC (repL (allN b) i))) 194 (0, 0)), (b7, .cells (List.toArray [.slice ah nh ch]) 355 (0, 0)), (b5, .cells (List.toArray (logC ((F q).getD []))) 194 (0, 0)), (b4, .cells (List.toArray (logC [])) 194 (0, 0)), (b3, .cells (List.toArray (qstC q)) 202 (0, 0)), (b2, .cells (List.toArray [pt qb]) 188 (0, 0)), (mb, .map es clock)]) (fun _ => D1) (fun i => i ≤ 13) (fun i => 13 - i) 0 (Nat.zero_le _) (fun a w ha => y4 ha ⟨rfl, rfl, rfl, rfl, rfl, rfl, trivial⟩) ?_;intro i hi;refine g [[1],[5,2,3,4,7,8,31]] ?_;refine WC.cond rfl (fun c32 => ?_) (fun c32 => ?_)
  · try simp only [zq] at c32
    have hi13 : i < 13 := by omega
    refine g [[5],[5,2,3,4,7,8,31],[6,9,2,3,4,7,8,31]] ?_;refine WL.yd (Yd.indexA UnF.h SzF.h rfl rfl (by (try dsimp only); omega) (by (try dsimp only); omega)) rfl ?_;refine WL.so (SO.store 0 rfl SzF.h rfl rfl rfl rfl (by show 0 + i * 1 + 1 ≤ 13; omega) (za rfl)) rfl ?_;rintro _ _ _ ⟨rfl, rfl, e2_⟩;obtain rfl := e2_.symm;refine g [[3],[1,2,3,4,7,8,31]] ?_;refine WL.yd (Yd.add rfl rfl (wr64 ⟨by (try dsimp only); omega, by (try dsimp only); omega⟩)) rfl (g [[2]] ?_);refine WP.again (i + 1) (by omega) (by omega) (fun a w ha => ?_);rw [← zw2 _ (show i < 13 by omega), ← zrR (UF _ hi) (by omega)];exact y4 ha ⟨rfl, rfl, rfl, rfl, rfl, rfl, trivial⟩
  try simp only [zq] at c32
  obtain rfl : i = 13 := by omega
  refine g [[6],[3,2,3,4,7,8]] ?_;refine WL.so (SO.alloc ZvF.h rfl) rfl (zw fun b10 hb10 => ?_);refine WL.so (SO.store 0 rfl SzF.h rfl rfl rfl rfl (zqb rfl) (za rfl)) rfl ?_;rintro _ _ _ ⟨rfl, rfl, e2_⟩;obtain rfl := e2_.symm;refine g [[4],[1,10,2,3,4,7,8]] ?_;refine WL.so (SO.buildSlice1 UnF.h SzF.h ZvF.h rfl rfl rfl (vs := [_, _]) rfl rfl rfl) rfl ?_;rintro _ _ _ ⟨b43, hb43, rfl, rfl, rfl⟩;refine g [[5]] ?_;refine WC.freezeN 0 b43 (.cells (List.toArray [.bool false, .bool true]) 4 (0, 0)) rfl rfl hb43 (fun D43 hX43 h43 => ?_);refine WC.freezeN 0 b10 (.cells (List.toArray [.func (.func 211) #[pt qb] #[]]) 357 (0, 0)) rfl rfl hb10 (fun D10 hX10 h10 => ?_);refine WC.freezeN 1 b7 (.cells (List.toArray [.slice ah nh ch]) 355 (0, 0)) rfl rfl hb7 (fun D7 hX7 h7 => ?_);refine WC.freezeN 3 b3 (.cells (List.toArray (qstC q)) 202 (0, 0)) rfl rfl hb3 (fun D3 hX3 h3 => ?_);refine WC.freezeN 3 b2 (.cells (List.toArray [pt qb]) 188 (0, 0)) rfl rfl hb2 (fun D2 hX2 h2 => ?_);replace h3 := hX2.old _ _ h3;replace h7 := hX2.old _ _ (hX3.old _ _ h7);replace h10 := hX2.old _ _ (hX3.old _ _ (hX7.old _ _ h10));replace h43 := hX2.old _ _ (hX3.old _ _ (hX7.old _ _ (hX10.old _ _ h43)));have hXf := (((hX43.trans hX10 (Nat.le_refl _)).trans hX7 (Nat.le_refl _)).trans hX3 (Nat.le_refl _)).trans hX2 (Nat.le_refl _);have hXX := hX1.trans hXf (Nat.le_refl _);have hSH2 := hSH.ext hXf;have hnh : nh = (hldL b q).length := hSH.len';have hq2 := hXX.old _ _ hq;refine WC.loopX (fun y : Nat × List Nat => ⟨95, y.2.map y1, [mb], w⟩) (fun y => [(2, pt b2), (3, pt b3), (4, pt b4), (7, pt b7), (8, pt b8), (10, pt b10), (43, .slice (some ⟨b43, 0, none⟩) 2 2), (44, nt 2), (45, nt y.1)]) (fun y => (([(b8, .cells (List.toArray (logC (pasN b q y.1))) 194 (0, 0)), (b5, .cells (List.toArray (logC ((F q).getD []))) 194 (0, 0)), (b4, .cells (List.toArray (logC [])) 194 (0, 0)), (mb, .map es clock)] : Hp) ++ y.2.map dblk)) (fun _ => D2) (fun y => y.1 ≤ 2) (fun y => 2 - y.1) (0, []) (Nat.zero_le _) (fun a w ha => y4 ha ⟨rfl, rfl, rfl, rfl, rfl, rfl, rfl, rfl, rfl, trivial⟩) ?_;rintro ⟨i, ms⟩ hi2;dsimp only at hi2;refine g [[1],[5,2,3,4,7,8,10,43,44,45]] ?_;refine WC.cond rfl (fun c46 => ?_) (fun c46 => ?_)
  · try simp only [zq] at c46
    have hi3 : i + 1 ≤ 2 := by omega
    refine g [[5],[1,2,3,4,7,8,10,43,44,45]] ?_;refine WL.yd (Yd.indexS UnF.h SzF.h rfl rfl (by (try dsimp only); omega) (by (try dsimp only); omega) (rfl)) rfl ?_;refine WL.yd (Yd.l1 rfl (Rd.imm h43 (zza (by omega)))) rfl (g [[4],[5,12,2,3,4,7,8,10,43,44,45]] ?_);refine WL.so (SO.alloc ZvF.h rfl) rfl (zw fun b13 hb13 => ?_);refine WL.so (SO.store 0 rfl SzF.h rfl rfl rfl rfl (zqb rfl) (za rfl)) rfl ?_;rintro _ _ _ ⟨rfl, rfl, e2_⟩;obtain rfl := e2_.symm;refine g [[3],[3,13,12,2,3,4,7,8,10,43,44,45]] ?_;refine WL.so (SO.makes (Enters.func Tryz.call212 rfl) (fun w1 hI => zrV qb (decide (i = 1)) D2 w1 hI.imm)) rfl ?_;rintro _ D55 _ ⟨hX55, ⟨bs, bc_, rfl, hbs, hbc⟩, rfl⟩;have hq55 := hX55.old _ _ hq2;refine g [[3],[0,2,3,4,7,8,10,13,43,44,45,55]] ?_;refine WC.rangeIterN (N := (b.last + 1).toNat) (arg := fun k => nt (gt (mntL b (decide (i = 1))) k)) (fun w2 _ hD1 => zpw b m hok (decide (i = 1)) qb mb bs bc_ D55 hq55 hbs hbc w2) rfl Tryz.call239 rfl (fun k _ h' => h' = (([(b13, .cells (List.toArray [ut (mntA b (hldL b q) q.speed (decide (i = 1)) (pasN b q i) k).2]) 192 (0, 0)), (b8, .cells (List.toArray (logC (mntA b (hldL b q) q.speed (decide (i = 1)) (pasN b q i) k).1)) 194 (0, 0)), (b5, .cells (List.toArray (logC ((F q).getD []))) 194 (0, 0)), (b4, .cells (List.toArray (logC [])) 194 (0, 0)), (mb, .map es clock)] : Hp) ++ ms.map dblk)) (fun _ _ _ => False) (fun _ _ _ _ _ h => h) rfl ?_ ?_ ?_
    · rintro rec1 l1 Dn0 k D5 _ w1 hrec hk rfl hX5 hsz;unfold yP;dsimp only;have hkL : k < (mntL b (decide (i = 1))).length := by rw [zrY]; exact hk
      have hA48 := zrW hok (hs := hldL b q) (speed := q.speed) (back := (decide (i = 1))) (zsc hok q i) k;have hA13 := (zqy (b := b) (hs := hldL b q) (speed := q.speed) (back := (decide (i = 1))) (out := pasN b q i) k).trans (zq3 b q i);have hmk := zrC (b := b) (back := (decide (i = 1))) hk;have hst := zrX (b := b) (hs := hldL b q) (speed := q.speed) (back := (decide (i = 1))) (out := pasN b q i) hkL;obtain ⟨mk, emk⟩ : ∃ mk, gt (mntL b (decide (i = 1))) k = mk := ⟨_, rfl⟩;rw [emk] at hmk hst ⊢;have hll := hok.last;have hm13 : mk < 13 := by rw [hmk]; split <;> omega
      have hac := hA48.2;have hXX5 := hXX.trans hX55 (Nat.le_refl _) |>.trans hX5 (Nat.le_refl _);have hq5 := hXX5.old _ _ hq;have hXp := hX55.trans hX5 (Nat.le_refl _);have h25 := hXp.old _ _ h2;have h35 := hXp.old _ _ h3;have h75 := hXp.old _ _ h7;have h105 := hXp.old _ _ h10;have hSH5 := hSH2.ext hXp;refine g [[3,56,2,3,4,7,8,10,13]] ?_;refine WP.iterBegin 0 rfl hrec (g [[3],[7,14,2,3,4,7,8,10,13]] ?_);refine WCF.loop (fun y : Nat × Nat => [(2, pt b2), (3, pt b3), (4, pt b4), (7, pt b7), (8, pt b8), (10, pt b10), (13, pt b13), (14, nt mk), (57, .slice ah nh ch), (58, nt nh), (59, nt y.1)]) (fun y => ((l1, .loop (u4 rec1)) :: (Dn0, .deferred (some [])) :: (([(b13, .cells (List.toArray [ut y.2]) 192 (0, 0)), (b8, .cells (List.toArray (logC (mntA b (hldL b q) q.speed (decide (i = 1)) (pasN b q i) k).1)) 194 (0, 0)), (b5, .cells (List.toArray (logC ((F q).getD []))) 194 (0, 0)), (b4, .cells (List.toArray (logC [])) 194 (0, 0)), (mb, .map es clock)] : Hp) ++ ms.map dblk))) (fun _ => D5) (fun y => y.1 ≤ nh ∧ ((hldL b q).foldl (fun c h => c &&& hatN b h mk) (mntA b (hldL b q) q.speed (decide (i = 1)) (pasN b q i) k).2) = ((hldL b q).drop y.1).foldl (fun c h => c &&& hatN b h mk) y.2 ∧ y.2 < 2 ^ 48) (fun y => nh - y.1) (0, (mntA b (hldL b q) q.speed (decide (i = 1)) (pasN b q i) k).2) ⟨Nat.zero_le _, rfl, hac⟩ (fun a w ha => y4 ha ⟨rfl, rfl, rfl, rfl, rfl, rfl, rfl, rfl, rfl, rfl, rfl, trivial⟩) ?_;rintro ⟨j, acc⟩ ⟨hj, hres, hacc⟩;dsimp only at hj hres hacc;refine g [[1],[5,2,3,4,7,8,10,13,14,57,58,59]] ?_;refine WCF.cond rfl (fun c60 => ?_) (fun c60 => ?_)
      · try simp only [zq] at c60
        have hj3 : j < nh := by omega
        have hj2 : j < (hldL b q).length := by omega
        refine g [[5],[1,2,3,4,7,8,10,13,14,57,58,59]] ?_;refine WLF.yd (zn rfl) (Yd.indexS UnF.h SzF.h rfl rfl (by (try dsimp only); omega) (by (try dsimp only); omega) (hSH5.addr j (by omega))) rfl ?_;refine WLF.yd (zn rfl) (Yd.l1 rfl ((hSH5.at j (by omega)).rd 0 rfl)) rfl (g [[3],[0,16,2,3,4,7,8,10,13,14,57,58,59]] ?_);refine WCF.tail 5 [0, 1, 2, 3, 4] rfl zk zk (noLets.blk (noLets.then (noLets.then (noLets.blk (noLets.then (noLets.blk noLets.round)))))) (g [[4]] ?_);refine WQ.know 64 (.iface (hldT (gt (hldL b q) j)) (hldA (gt (hldL b q) j))) rfl (zxB _) (WQ.q rfl (Qt.call (Enters.meth (ztq _) (ztr _) rfl rfl) (fun w hI => zzc (gt (hldL b q) j) mk (zuq hok hqb hqr _ (yE hj2)) m hok qb mb D5 hq5 _ hI.imm)) rfl ?_);refine WQ.tailR (WLF.yd (zn rfl) (Yd.andG (.inl rfl) (lt63 hacc (by omega)) (lt63 (zxA hok (zuq hok hqb hqr _ (yE hj2)) mk) (by omega)) rfl rfl) rfl ?_);refine WLF.so (zn rfl) (SO.store 2 rfl SzF.h rfl rfl rfl rfl (zqb rfl) (za rfl)) rfl ?_;rintro _ _ _ ⟨rfl, rfl, e2_⟩;obtain rfl := e2_.symm;refine g [[3],[1,2,3,4,7,8,10,13,14,57,58,59]] ?_;refine WLF.yd (zn rfl) (Yd.add rfl rfl (wr64 ⟨by (try dsimp only); omega, by (try dsimp only); omega⟩)) rfl (g [[2]] ?_);exact WP.again (j + 1, acc &&& hatN b (gt (hldL b q) j) mk) ⟨hj3, by rw [hres, zne hj2]; rfl, zqf hacc⟩ (by show nh - (j + 1) < nh - j; omega) (fun a w ha => y4 ha ⟨rfl, rfl, rfl, rfl, rfl, rfl, rfl, rfl, rfl, rfl, rfl, trivial⟩)
      try simp only [zq] at c60
      have hTot : ((hldL b q).foldl (fun c h => c &&& hatN b h mk) (mntA b (hldL b q) q.speed (decide (i = 1)) (pasN b q i) k).2) = acc := by rw [hres, List.drop_of_length_le (by omega)]; rfl
      subst hTot;have hom := zqf (c := ((hldL b q).foldl (fun c h => c &&& hatN b h mk) (mntA b (hldL b q) q.speed (decide (i = 1)) (pasN b q i) k).2)) (hA48.1 mk);refine g [[6],[0,3,4,8,10,13,14]] ?_;refine WCF.tail 4 [0, 1, 2, 3] rfl zk zk (noLets.then (noLets.blk noLets.round)) (g [[1]] ?_);refine WQ.q rfl (Yd.qt (Yd.indexA UnF.h SzF.h rfl rfl (by (try dsimp only); omega) (by (try dsimp only); omega))) rfl ?_;refine WQ.q rfl (Yd.qt (Yd.l1 rfl (Rd.own (k := 3) rfl (zuv _ (by omega))))) rfl (g [[1]] ?_);refine WQ.tailR (WLF.yd (zn rfl) (Yd.andG (.inl rfl) (lt63 (hA48.1 mk) (by omega)) (lt63 hacc (by omega)) rfl rfl) rfl ?_);refine WLF.yd (zn rfl) (Yd.indexA UnF.h SzF.h rfl rfl (by (try dsimp only); omega) (by (try dsimp only); omega)) rfl ?_;refine WLF.so (zn rfl) (SO.store 3 rfl SzF.h rfl rfl rfl rfl (by show 0 + mk * 1 + 1 ≤ 13; omega) (za rfl)) rfl ?_;rintro _ _ _ ⟨rfl, rfl, e2_⟩;obtain rfl := e2_.symm;refine g [[3],[1,3,4,8,10,13,14]] ?_;rw [show ((mk : Nat) : Int).toNat = mk from rfl, zrR hA13 hm13];refine g [[1]] ?_;refine WLF.yd (zn rfl) (Yd.indexA UnF.h SzF.h rfl rfl (by (try dsimp only); omega) (by (try dsimp only); omega)) rfl ?_;refine WLF.yd (zn rfl) (Yd.l1 rfl (Rd.own (k := 3) rfl (zuv _ (by omega)))) rfl (WLF.know 78 (ut (gt (mntA b (hldL b q) q.speed (decide (i = 1)) (pasN b q i) k).1 mk &&& ((hldL b q).foldl (fun c h => c &&& hatN b h mk) (mntA b (hldL b q) q.speed (decide (i = 1)) (pasN b q i) k).2))) rfl (congrArg (fun n : Nat => ut n) ((VR (by omega)).trans (if_pos rfl))) ?_);refine WLF.so (zn rfl) (SO.store 2 rfl SzF.h rfl rfl rfl rfl (zqb rfl) (za rfl)) rfl ?_;rintro _ _ _ ⟨rfl, rfl, e2_⟩;obtain rfl := e2_.symm;refine g [[3],[7,3,4,10,13]] ?_;refine WCF.loop (fun y : Nat × Nat => [(3, pt b3), (4, pt b4), (10, pt b10), (13, pt b13), (80, nt q.speed), (81, nt y.1)]) (fun y => ((l1, .loop (u4 rec1)) :: (Dn0, .deferred (some [])) :: (([(b13, .cells (List.toArray [ut y.2]) 192 (0, 0)), (b8, .cells (List.toArray (logC ((mntA b (hldL b q) q.speed (decide (i = 1)) (pasN b q i) k).1.set mk (gt (mntA b (hldL b q) q.speed (decide (i = 1)) (pasN b q i) k).1 mk &&& ((hldL b q).foldl (fun c h => c &&& hatN b h mk) (mntA b (hldL b q) q.speed (decide (i = 1)) (pasN b q i) k).2))))) 194 (0, 0)), (b5, .cells (List.toArray (logC ((F q).getD []))) 194 (0, 0)), (b4, .cells (List.toArray (logC [])) 194 (0, 0)), (mb, .map es clock)] : Hp) ++ ms.map dblk))) (fun _ => D5) (fun y => y.1 ≤ q.speed ∧ zpV (steN b) q.speed (gt (mntA b (hldL b q) q.speed (decide (i = 1)) (pasN b q i) k).1 mk &&& ((hldL b q).foldl (fun c h => c &&& hatN b h mk) (mntA b (hldL b q) q.speed (decide (i = 1)) (pasN b q i) k).2)) = zpV (steN b) (q.speed - y.1) y.2 ∧ y.2 < 2 ^ 48) (fun y => q.speed - y.1) (0, (gt (mntA b (hldL b q) q.speed (decide (i = 1)) (pasN b q i) k).1 mk &&& ((hldL b q).foldl (fun c h => c &&& hatN b h mk) (mntA b (hldL b q) q.speed (decide (i = 1)) (pasN b q i) k).2))) ⟨Nat.zero_le _, rfl, hom⟩ (fun a w ha => y4 ha ⟨rfl, rfl, rfl, rfl, rfl, rfl, trivial⟩) ?_;rintro ⟨j, acc⟩ ⟨hj, hres, hacc⟩;dsimp only at hj hres hacc;refine g [[1],[5,3,4,10,13,80,81]] ?_;refine WCF.cond rfl (fun c82 => ?_) (fun c82 => ?_)
      · try simp only [zq] at c82
        have hj2 : j < q.speed := by omega
        refine g [[4],[3,3,4,10,13,80,81]] ?_;refine WLF.so (zn rfl) (SO.call (Enters.val CaF.h rfl rfl) (fun w hI => zwj acc hacc b m hok qb mb D5 hq5 _ hI.imm)) rfl ?_;rintro _ _ _ ⟨rfl, rfl, e2_⟩;obtain rfl := e2_.symm;refine WLF.so (zn rfl) (SO.store 2 rfl SzF.h rfl rfl rfl rfl (zqb rfl) (za rfl)) rfl ?_;rintro _ _ _ ⟨rfl, rfl, e2_⟩;obtain rfl := e2_.symm;refine g [[3],[1,3,4,10,13,80,81]] ?_;refine WLF.yd (zn rfl) (Yd.add rfl rfl (wr64 ⟨by (try dsimp only); omega, by (try dsimp only); omega⟩)) rfl (g [[2]] ?_);exact WP.again (j + 1, steN b acc) ⟨hj2, by rw [hres, show q.speed - j = (q.speed - (j + 1)) + 1 by omega]; rfl, zuJ hok acc⟩ (by show q.speed - (j + 1) < q.speed - j; omega) (fun a w ha => y4 ha ⟨rfl, rfl, rfl, rfl, rfl, rfl, trivial⟩)
      try simp only [zq] at c82
      obtain rfl : j = q.speed := by omega
      rw [Nat.sub_self] at hres;have hres2 : acc = zpV (steN b) q.speed (gt (mntA b (hldL b q) q.speed (decide (i = 1)) (pasN b q i) k).1 mk &&& ((hldL b q).foldl (fun c h => c &&& hatN b h mk) (mntA b (hldL b q) q.speed (decide (i = 1)) (pasN b q i) k).2)) := hres.symm;subst hres2;refine g [[5]] ?_;refine WP.iterOnN hrec (h1 := (([(b13, .cells (List.toArray [ut (zpV (steN b) q.speed (gt (mntA b (hldL b q) q.speed (decide (i = 1)) (pasN b q i) k).1 mk &&& ((hldL b q).foldl (fun c h => c &&& hatN b h mk) (mntA b (hldL b q) q.speed (decide (i = 1)) (pasN b q i) k).2)))]) 192 (0, 0)), (b8, .cells (List.toArray (logC ((mntA b (hldL b q) q.speed (decide (i = 1)) (pasN b q i) k).1.set mk (gt (mntA b (hldL b q) q.speed (decide (i = 1)) (pasN b q i) k).1 mk &&& ((hldL b q).foldl (fun c h => c &&& hatN b h mk) (mntA b (hldL b q) q.speed (decide (i = 1)) (pasN b q i) k).2))))) 194 (0, 0)), (b5, .cells (List.toArray (logC ((F q).getD []))) 194 (0, 0)), (b4, .cells (List.toArray (logC [])) 194 (0, 0)), (mb, .map es clock)] : Hp) ++ ms.map dblk)) (fun _ h => h) (fun h => h) (DExt.refl _ _) ?_;rw [hst];rfl
    · rintro Dn1 D6 _ hDn1 hX6 rfl
      have hpas : (mntA b (hldL b q) q.speed (decide (i = 1)) (pasN b q i) (b.last + 1).toNat).1 = pasN b q (i + 1) := by
        unfold mntA;rw [List.take_of_length_le (Nat.le_of_eq (zrY _ _))]; rfl
      refine g [[3],[1,2,3,4,7,8,10,43,44,45]] ?_;refine WL.yd (Yd.add rfl rfl (wr64 ⟨by (try dsimp only); omega, by (try dsimp only); omega⟩)) rfl (g [[2]] ?_);refine WP.againX (i + 1, Dn1 :: ms) hi3 (by show 2 - (i + 1) < 2 - i; omega) (fun a w ha => ?_);dsimp only;rw [← hpas];exact zz5 [_, _, _, _] (ms.map dblk) ha ⟨rfl, rfl, rfl, rfl, rfl, rfl, rfl, rfl, rfl, trivial⟩ (fun b o h => hX6.old _ _ (hX55.old _ _ h))
    exact fun _ _ _ _ _ _ h => h.elim
  try simp only [zq] at c46
  obtain rfl : i = 2 := by omega
  refine g [[6],[0,2,3,4,8],[3006],[7]] ?_;refine WL.so (SO.putG (kv := qstV) (vv := logV) (y := q) (u := flwL b q) zqB qstK UnF.h rfl hkey rfl rfl (j := 3) rfl hM) rfl ?_;rintro _ _ _ ⟨rfl, es1, clock1, rfl, hM1⟩;refine g [[3],[2,4,8]] ?_;refine WL.so (SO.store 2 rfl SzF.h rfl rfl rfl rfl (zqb rfl) (za rfl)) rfl ?_;rintro _ _ _ ⟨rfl, rfl, e2_⟩;obtain rfl := e2_.symm;refine g [[3]] ?_;refine WP.retMs ms [(b8, .cells (List.toArray (logC (flwL b q))) 194 (0, 0)), (b5, .cells (List.toArray (logC ((F q).getD []))) 194 (0, 0)), (b4, .cells (List.toArray (logC (flwL b q))) 194 (0, 0)), (mb, .map es1 clock1)] [_] [_] rfl rfl (zum [_, _, _, _] (ms.map dblk)).1 (zum [_, _, _, _] (ms.map dblk)).2 rfl zV (fun w1 hI => ⟨_, D, [(mb, .map es1 clock1)], rfl, DExt.refl _ _, (hI.drop 3).shrink hXX.old, rfl, rfl, es1, clock1, _, rfl, hM1, zvi hF⟩)
theorem zuj : zp Tryz.prog 111 [pt qb, qstV q] w D [mb] (fun v D' hp' => D = D' ∧ v = .bool (canB b q) ∧ MapQ b mb hp') := by
  unfold zp;obtain ⟨es, clock, F, rfl, hM, hF⟩ := hMM;refine en Tryz.func111 rfl Tryz.ntmps111 hI0 (g [[1],[1,0,1]] ?_);refine WL.so (SO.box rfl rfl) rfl (zw fun b3 hb3 => ?_);refine g [[4],[3,4,3,0]] ?_;refine WL.so (SO.altersN (own := [_]) (hpc := [(mb, .map es clock)]) (S1 := [mb]) (fun _ h => h) (fun h => h) (fun _ h => h) (fun _ h => h) (Enters.func CaF.h rfl) (fun w1 hI => zpo b m hok qb mb D hR hq q hqb hqw hqr hqs w1 _ ⟨es, clock, F, rfl, hM, hF⟩ hI)) rfl ?_;rintro _ _ _ ⟨hM2, _, ⟨rfl, rfl, hMM2⟩, rfl⟩;refine WL.yd (Yd.indexV UnF.h AgF.h SzF.h rfl rfl (by decide) (zuu _ (i := 0) (by decide))) rfl (g [[5]] ?_);refine WP.ret1 rfl rfl rfl (RV.tmp rfl) (fun w1 hI => ⟨_, D, _, rfl, DExt.refl _ _, hI.drop 1, rfl, congrArg Value.bool (by rw [Bool.eq_iff_iff]; simp [canB]), hMM2⟩)
end
theorem zws (k : Nat) (b : xb) (m : k4) (hok : xv b) (hk : k < b.seen.length) (qb mb : Nat) (D : Imm) (hR : zmz D b m) (hq : D qb = some (watX b m mb)) (w : World) (hp0 : Hp) (hMM : MapQ b mb hp0) (hI0 : Inv D hp0 [mb] w w) : yl Tryz.prog 106 [pt qb, nt k] w D [mb] (fun v D' hp' => D = D' ∧ v = logV (flwL b (plnQ b k)) ∧ canB b (plnQ b k) = true ∧ MapQ b mb hp') (fun ch D' hp' => D = D' ∧ ch = zwk 10 ∧ canB b (plnQ b k) = false ∧ MapQ b mb hp') := by
  unfold yl;obtain ⟨es, clock, F, rfl, hM, hF⟩ := hMM;refine en Tryz.func106 rfl Tryz.ntmps106 hI0 (g [[1],[1,0,1]] ?_);refine WL.so (SO.alloc ZvF.h rfl) rfl (zw fun b4 hb4 => ?_);refine g [[3],[4,4,0,1]] ?_;refine WL.so (SO.callP CaF.h rfl (fun w hI => zq4 k b m hok qb mb D hq _ hI.imm)) rfl ?_;rintro _ _ _ ⟨rfl, rfl, e2_⟩;obtain rfl := e2_.symm;refine WL.so (SO.altersN (own := [_]) (hpc := [(mb, .map es clock)]) (S1 := [mb]) (fun _ h => h) (fun h => h) (fun _ h => h) (fun _ h => h) (Enters.func CaF.h rfl) (fun w1 hI => zuj b m hok qb mb D hR hq (plnQ b k) hk rfl (by show 0 ≤ 7; omega) (bnum hok).s3 w1 _ ⟨es, clock, F, rfl, hM, hF⟩ hI)) rfl ?_;rintro _ _ _ ⟨hM2, _, ⟨rfl, rfl, hMM2⟩, rfl⟩;obtain ⟨es2, clock2, F2, rfl, hM2, hF2⟩ := hMM2;refine WL.part 9 rfl (fun g9 => ?_) (fun g9 => ?_)
  · refine WL.so (SO.call (Enters.func CaF.h rfl) (fun w hI => znG _ _)) rfl ?_;rintro _ _ _ ⟨rfl, rfl, e2_⟩;obtain rfl := e2_.symm;refine g [[3],[4,4,0,1]] ?_;refine WL.so (SO.callP CaF.h rfl (fun w hI => zq4 k b m hok qb mb D hq _ hI.imm)) rfl ?_;rintro _ _ _ ⟨rfl, rfl, e2_⟩;obtain rfl := e2_.symm;refine WL.so (SO.altersN (own := [_]) (hpc := [(mb, .map es2 clock2)]) (S1 := [mb]) (fun _ h => h) (fun h => h) (fun _ h => h) (fun _ h => h) (Enters.func CaF.h rfl) (fun w1 hI => zpo b m hok qb mb D hR hq (plnQ b k) hk rfl (by show 0 ≤ 7; omega) (bnum hok).s3 w1 _ ⟨es2, clock2, F2, rfl, hM2, hF2⟩ hI)) rfl ?_;rintro _ _ _ ⟨hM3, _, ⟨rfl, rfl, hMM3⟩, rfl⟩;refine WL.so (SO.store 0 rfl SzF.h rfl rfl rfl rfl (zqb rfl) (za rfl)) rfl ?_;rintro _ _ _ ⟨rfl, rfl, e2_⟩;obtain rfl := e2_.symm;refine g [[3]] ?_;refine WP.ret1 rfl rfl rfl (RV.cellN AgF.h SzF.h rfl (vs := [_, _, _, _, _, _, _, _, _, _, _, _, _]) rfl (RdN.own (k := 0) (n := 13) rfl rfl)) (fun w1 hI => ⟨D, _, DExt.refl _ _, hI.drop 1, .inl ⟨_, rfl, rfl, rfl, g9, hMM3⟩⟩)
  refine WL.nf rfl (fun w hI => ztL _ _) (g [[1]] ?_);exact WP.panicBody rfl (fun w1 hI => ⟨D, _, DExt.refl _ _, hI.drop 1, .inr ⟨_, rfl, rfl, rfl, g9, es2, clock2, F2, rfl, hM2, hF2⟩⟩)
def CloQ (b : xb) (mb : Nat) (D : Imm) (N : Nat) (f : FuncId) (cp : List Value) (gg : Nat → Bool) : Prop :=
  (∀ args w, (callFunc f args).run Tryz.prog w = .ok (.enter f args) w) ∧ ∀ (i : Nat) (w : World) (hp0 : Hp), i ≤ N → MapQ b mb hp0 → Inv D hp0 [mb] w w → zp Tryz.prog f (nt i :: cp) w D [mb] (fun v D' hp' => D = D' ∧ v = .bool (gg i) ∧ MapQ b mb hp')
def fndV (o : Option Nat) : Value := match o with
  | some i => .tuple #[nt i, .bool true]
  | none => .tuple #[it 0, .bool false]
theorem zqa (n : Nat) : (uptL n).length = n + 1 := List.length_range
theorem zqn {n i : Nat} (h : i < n + 1) : gt (uptL n) i = i := by simp [gt, uptL, List.getD, h]
section
variable {l : List Nat} {gg : Nat → Bool} {k : Nat} (hk : k < l.length)
include l gg k hk
theorem zxv (h : gg (gt l k) = false) : (l.drop k).find? gg = (l.drop (k + 1)).find? gg := by
  rw [zne hk, List.find?_cons, h]
theorem zvj (h : gg (gt l k) = true) : (l.drop k).find? gg = some (gt l k) := by
  rw [zne hk, List.find?_cons, h]
end
theorem zte (b : xb) (m : k4) (hok : xv b) (qb mb : Nat) (D : Imm) (hR : zmz D b m) (hq : D qb = some (watX b m mb)) (n : Nat) (hn : n ≤ 10) (gg : Nat → Bool) (f : FuncId) (cp : List Value) (hC : CloQ b mb D n f cp gg) (a : Option Addr) (c : Nat) (hS : SlL D 1 ((uptL n).map ntC) a (n + 1)) (w : World) (hp0 : Hp) (hMM : MapQ b mb hp0) (hI0 : Inv D hp0 [mb] w w) : zp Tryz.prog 108 [.slice a (n + 1) c, .agg #[.func (.func f) #[] cp.toArray]] w D [mb] (fun v D' hp' => D = D' ∧ v = fndV ((uptL n).find? gg) ∧ MapQ b mb hp') := by
  unfold zp;obtain ⟨es, clock, F, rfl, hM, hF⟩ := hMM;refine en Tryz.func108 rfl Tryz.ntmps108 hI0 (g [[1],[1,0,1]] ?_);refine WL.so (SO.box rfl rfl) rfl (zw fun b3 hb3 => ?_);refine g [[6],[7,5,4,3,0]] ?_;refine WC.loop (fun y : Nat × Hp => [(4, it 0), (3, pt b3), (8, .slice a (n + 1) c), (9, nt (n + 1)), (10, nt y.1)]) (fun y => (b3, .cells (List.toArray [(.func (.func f) #[] cp.toArray)]) 204 (0, 0)) :: y.2) (fun _ => D) (fun y => y.1 ≤ n + 1 ∧ (uptL n).find? gg = ((uptL n).drop y.1).find? gg ∧ MapQ b mb y.2) (fun y => n + 1 - y.1) (0, [(mb, .map es clock)]) ⟨Nat.zero_le _, rfl, es, clock, F, rfl, hM, hF⟩ (fun a w ha => y4 ha ⟨rfl, rfl, rfl, rfl, rfl, trivial⟩) ?_;clear hM hF;rintro ⟨i, hpM⟩ ⟨hi, hres, hMM⟩;dsimp only at hi hres hMM;obtain ⟨es, clock, F, rfl, hM, hF⟩ := hMM;refine g [[1],[5,4,3,8,9,10]] ?_;refine WC.cond rfl (fun c11 => ?_) (fun c11 => ?_)
  · try simp only [zq] at c11
    have hi2 : i < n + 1 := by omega
    refine g [[5],[1,4,3,8,9,10]] ?_;refine WL.yd (Yd.ix rfl rfl (hS.addr i hi2)) rfl (WL.yd (Yd.l1 rfl ((hS.at i hi2).rd 0 rfl)) rfl ?_);refine WL.know 13 (nt i) rfl (congrArg (fun n : Nat => nt n) (zqn (by omega))) (g [[4],[4,7,4,3,8,9,10]] ?_);refine WL.so (SO.altersN (own := [_]) (hpc := [(mb, .map es clock)]) (S1 := [mb]) (fun _ h => h) (fun h => h) (fun _ h => h) (fun _ h => h) (Enters.val (va := []) (vb := cp) (vals := [nt i]) hC.1 rfl rfl) (fun w1 hI => hC.2 i w1 _ (by omega) ⟨es, clock, F, rfl, hM, hF⟩ hI)) rfl ?_;rintro _ _ _ ⟨hM2, _, ⟨rfl, rfl, hMM2⟩, rfl⟩;refine g [[2]] ?_;refine WC.cond rfl (fun c17 => ?_) (fun c17 => ?_)
    · refine g [[1],[12,7,4,3,8,9,10]] ?_;refine WP.ret2 rfl rfl rfl (RV.tmp rfl) (RV.tmp rfl) (fun w1 hI => ⟨_, D, _, rfl, DExt.refl _ _, hI.drop 1, rfl, by rw [hres, zvj (by rw [zqa]; omega) (by rw [zqn hi2]; simp_all), zqn hi2]; rfl, hMM2⟩)
    refine g [[3],[4,4,3,8,9,10]] ?_;refine WP.again (i + 1, hM2) ⟨hi2, by rw [hres, zxv (by rw [zqa]; omega) (by rw [zqn hi2]; simp_all)], hMM2⟩ (by show n + 1 - (i + 1) < n + 1 - i; omega) (fun a w ha => y4 ha ⟨rfl, rfl, rfl, rfl, rfl, trivial⟩)
  try simp only [zq] at c11
  obtain rfl : i = n + 1 := by omega
  rw [List.drop_of_length_le (Nat.le_of_eq (zqa n))] at hres;refine g [[6],[7,4]] ?_;refine WP.ret2 rfl rfl rfl (RV.tmp rfl) (RV.tmp rfl) (fun w1 hI => ⟨_, D, _, rfl, DExt.refl _ _, hI.drop 1, rfl, by rw [hres]; rfl, es, clock, F, rfl, hM, hF⟩)
theorem zvR (k : Nat) (b : xb) (m : k4) (hok : xv b) (hk : k < b.seen.length) (qb mb : Nat) (D : Imm) (hR : zmz D b m) (hq : D qb = some (watX b m mb)) (bq bk : Nat) (hbq : D bq = some (.cells (List.toArray [pt qb]) 188 (0, 0))) (hbk : D bk = some (.cells (List.toArray [nt k]) 3 (0, 0))) (i : Nat) (hi : i ≤ 6) (w : World) (hp0 : Hp) (hMM : MapQ b mb hp0) (hI0 : Inv D hp0 [mb] w w) : zp Tryz.prog 178 [nt i, pt bq, pt bk] w D [mb] (fun v D' hp' => D = D' ∧ v = .bool (!canB b { plnQ b k with row := i + 1 }) ∧ MapQ b mb hp') := by
  unfold zp;obtain ⟨es, clock, F, rfl, hM, hF⟩ := hMM;refine en Tryz.func178 rfl Tryz.ntmps178 hI0 (g [[1],[5,0,1,2],[3,4,0,1,2]] ?_);refine WL.so (SO.callP CaF.h rfl (fun w hI => zq4 k b m hok qb mb D hq _ hI.imm)) rfl ?_;rintro _ _ _ ⟨rfl, rfl, e2_⟩;obtain rfl := e2_.symm;refine WL.so (SO.alloc ZvF.h rfl) rfl (zw fun b5 hb5 => ?_);refine WL.so (SO.store 0 rfl SzF.h rfl rfl rfl rfl (zqb rfl) (za rfl)) rfl ?_;rintro _ _ _ ⟨rfl, rfl, e2_⟩;obtain rfl := e2_.symm;refine g [[3],[2,5,4,0,1]] ?_;refine WL.yd (Yd.addN (i := i) (j := 1) rfl rfl (by omega)) rfl (g [[1]] ?_);refine WL.so (SO.store 0 rfl SzF.h rfl rfl rfl rfl (zqb rfl) (za rfl)) rfl ?_;rintro _ _ _ ⟨rfl, rfl, e2_⟩;obtain rfl := e2_.symm;refine g [[3],[3,5,4,1]] ?_;refine WL.so (SO.altersN (own := [_]) (hpc := [(mb, .map es clock)]) (S1 := [mb]) (fun _ h => h) (fun h => h) (fun _ h => h) (fun _ h => h) (Enters.func CaF.h rfl) (fun w1 hI => zuj b m hok qb mb D hR hq { plnQ b k with row := i + 1 } hk rfl (by show i + 1 ≤ 7; omega) (bnum hok).s3 w1 _ ⟨es, clock, F, rfl, hM, hF⟩ hI)) rfl ?_;rintro _ _ _ ⟨hM2, _, ⟨rfl, rfl, hMM2⟩, rfl⟩;refine g [[5]] ?_;refine WP.ret1 rfl rfl rfl (RV.tmp rfl) (fun w1 hI => ⟨_, D, _, rfl, DExt.refl _ _, hI.drop 1, rfl, rfl, hMM2⟩)
theorem zyK : zj Tryz.prog 204 [.nilFunc] [(0, 1)] := ⟨⟨_, Tryz.zeroValue204, rfl⟩, _, Tryz.underlying204, fun w => by simp [Tryz.sizeOf107]⟩
abbrev zwR := SaF.mk zyK
attribute [instance] zwR
theorem ztC {l : List Nat} (h : l.length = 13) : logC l = l.flatMap utC := by
  have e : l = (List.range 13).map (gt l) := by
    apply List.ext_getElem?;intro i;by_cases hi : i < 13
    · simp [gt, List.getD, hi, h]
    rw [List.getElem?_eq_none (by omega), List.getElem?_eq_none (by simp; omega)]
  conv => rhs; rw [e]
  rfl
theorem zrw (b : xb) (q : Qst) : (flwL b q).length = 13 := by rw [← zsd]; exact zq3 b q 2
theorem zun {b : xb} (hok : xv b) (q : Qst) : znQ (flwL b q) := by rw [← zsd]; exact zsc hok q 2
theorem zuz : ∀ (l : List Nat) (a : Nat), a ≤ ORF l a
  | [], _ => Nat.le_refl _
  | x :: l, a => Nat.le_trans Nat.left_le_or (zuz l (a ||| x))
theorem zub {l : List Nat} {n : Nat} (h : gt l 0 ≠ 0) : uniN (l.take (n + 1)) ≠ 0 := by
  cases l with
  | nil => exact absurd rfl h
  | cons x l =>
    have h1 : x ≠ 0 := h;have h2 := zuz (l.take n) (0 ||| x);have h3 : uniN ((x :: l).take (n + 1)) = ORF (l.take n) (0 ||| x) := rfl;rw [h3]; rw [Nat.zero_or] at *; omega
theorem zpc {l : List Nat} (h : znQ l) : ∀ x ∈ l, x < 2 ^ 48 := fun x hx => by
  obtain ⟨i, hi, rfl⟩ := List.getElem_of_mem hx;have := h i;have e : gt l i = l[i] := by simp [gt, List.getD, hi]
  rwa [e] at this
theorem zym {l : List Nat} (h : znQ l) (n : Nat) : uniN (l.take n) < 2 ^ 48 := zs9 _ _ (fun x hx => zpc h x (List.mem_of_mem_take hx)) (by decide)
theorem zv1 {b : xb} {q : Qst} (h : canB b q = true) : gt (flwL b q) 0 ≠ 0 := of_decide_eq_true h
theorem zoe {b : xb} {k : Nat} (h : k < b.seen.length) : zqt b (k : Int) = true := by unfold zqt; rw [znf]; omega
theorem ztE (b : xb) (mb : Nat) : MapQ b mb [(mb, .map #[] 0)] := ⟨_, _, fun _ => none, rfl, MapG.empty, fun _ _ h => nomatch h⟩
theorem zvS (k : Nat) (b : xb) (m : k4) (hok : xv b) (hk : k < b.seen.length) (qb mb : Nat) (D : Imm) (hR : zmz D b m) (hq : D qb = some (watX b m mb)) (hT : LibT D) (w : World) (hp0 : Hp) (hMM : MapQ b mb hp0) (hI0 : Inv D hp0 [mb] w w) : yl Tryz.prog 107 [pt qb, nt k] w D [mb] (fun v D' hp' => v = .agg #[it (neaI b k).lo, it (neaI b k).hi] ∧ canB b (plnQ b k) = true ∧ MapQ b mb hp') (fun ch D' hp' => ch = zwk 10 ∧ canB b (plnQ b k) = false ∧ MapQ b mb hp') := by
  unfold yl;have hb := bnum hok;have hw8 := hb.w8;have hd6 := hb.d6;have hbs := hb.d;have hl12 := hb.l12;have hbl := hb.l;obtain ⟨es, clock, F, rfl, hM, hF⟩ := hMM;refine en Tryz.func107 rfl Tryz.ntmps107 hI0 (g [[1],[1,0,1]] ?_);refine WL.so (SO.box rfl rfl) rfl (zw fun b2 hb2 => ?_);refine WL.so (SO.box rfl rfl) rfl (zw fun b3 hb3 => ?_);refine WL.so (SO.alloc ZvF.h rfl) rfl (zw fun b4 hb4 => ?_);refine g [[3],[3,4,3,2]] ?_;refine WL.so (SO.altersV (own := [_, _, _]) (hpc := [(mb, .map es clock)]) (S1 := [mb]) (fun _ h => h) (fun h => h) (fun _ h => h) (fun _ h => h) (Enters.func CaF.h rfl) (fun w1 _ hI => zws k b m hok hk qb mb D hR hq w1 _ ⟨es, clock, F, rfl, hM, hF⟩ hI) ?_) rfl ?_
  · rintro _ D5 hp5 ⟨rfl, rfl, hno, hMM5⟩ hX5;refine g [[1]] ?_;exact WP.panicBody rfl (fun w1 hI => ⟨D, _, DExt.refl _ _, hI.drop 3, .inr ⟨_, rfl, rfl, hno, hMM5⟩⟩)
  rintro _ D5 _ ⟨hp5, hX5, ⟨rfl, rfl, hyes, hMM5⟩, rfl⟩;clear hM hF;obtain ⟨es, clock, F, rfl, hM, hF⟩ := hMM5;have hne := zv1 hyes;refine WL.so (SO.alloc ZvF.h rfl) rfl (zw fun b5 hb5 => ?_);refine WL.so (SO.store 0 rfl SzF.h rfl rfl rfl rfl (zqb rfl) (za rfl)) rfl ?_;rintro _ _ _ ⟨rfl, rfl, e2_⟩;obtain rfl := e2_.symm;refine g [[3],[7,5,4,3,2]] ?_;refine WL.know 17 (nt (b.last.toNat + 1)) rfl (congrArg it (by omega)) ?_;refine WL.freezeN 0 b5 (.cells (List.toArray (logC (flwL b (plnQ b k)))) 194 (0, 0)) rfl rfl hb5 (fun D5 hX5 h5 => ?_);have hq := hX5.old _ _ hq;have hR := hR.ext hX5;have hT := hT.ext hX5;have hS5 : SlL D5 1 ((flwL b (plnQ b k)).map utC) (some ⟨b5, 0, none⟩) 13 := by have := SlL.ofBlock (l := (flwL b (plnQ b k))) (rest := []) znB (by rw [List.append_nil, ← ztC (zrw b (plnQ b k))]; exact h5); rwa [zrw] at this
  have hSl : SlL D5 1 (((flwL b (plnQ b k)).take (b.last.toNat + 1)).map utC) (some ⟨b5, 0, none⟩) (b.last.toNat + 1) := by rw [List.map_take]; exact hS5.take (by omega)
  refine WL.yd (Yd.sliceArr (h := b.last.toNat + 1) Tryz.underlying194 Tryz.sizeOf192 rfl rfl (by omega)) rfl (WL.so (SO.callP CaF.h rfl (fun w hI => zqQ ((flwL b (plnQ b k)).take (b.last.toNat + 1)) (fun x hx => lt63 (zpc (zun hok _) x (List.mem_of_mem_take hx)) (by omega)) _ _ _ D5 hSl (by omega) _ hI.imm)) rfl ?_);rintro _ _ _ ⟨rfl, rfl, e2_⟩;obtain rfl := e2_.symm;refine g [[4]] ?_;refine WC.freezeN 1 b3 (.cells (List.toArray [nt k]) 3 (0, 0)) rfl rfl hb3 (fun D3 hX3 h3 => ?_);refine WC.freezeN 1 b2 (.cells (List.toArray [pt qb]) 188 (0, 0)) rfl rfl hb2 (fun D2 hX2 h2 => ?_);have hXX := (hX5.trans hX3 (Nat.le_refl _)).trans hX2 (Nat.le_refl _);replace h3 := hX2.old _ _ h3;have hq := hX2.old _ _ (hX3.old _ _ hq);have hR := (hR.ext hX3).ext hX2;have hT := (hT.ext hX3).ext hX2;refine g [[6,6,4,3,2]] ?_;refine WL.know 25 (nt b.deep.toNat) rfl (congrArg it hb.d) (WL.so (SO.makes (Enters.func Tryz.call109 rfl) (fun w1 hI => zwu b.deep.toNat (by omega) D2 w1 hI.imm)) rfl ?_);rintro _ D6 _ ⟨hX6, ⟨au, cu, rfl, hSu⟩, rfl⟩;have hq1 := hX6.old _ _ hq;have hR1 := hR.ext hX6;have h2x := hX6.old _ _ h2;have h3x := hX6.old _ _ h3;refine g [[2]] ?_;refine WL.so (SO.altersN (own := [_]) (hpc := [(mb, .map es clock)]) (S1 := [mb]) (fun _ h => h) (fun h => h) (fun _ h => h) (fun _ h => h) (Enters.func CaF.h rfl) (fun w1 hI => zte b m hok qb mb D6 hR1 hq1 b.deep.toNat (by omega) (fun row => !canB b { plnQ b k with row := row + 1 }) 178 [pt b2, pt b3] ⟨CaF.h, fun i w2 hp2 hi2 hMM2 hI2 => zvR k b m hok hk qb mb D6 hR1 hq1 b2 b3 h2x h3x i (by omega) w2 hp2 hMM2 hI2⟩ au cu hSu w1 _ ⟨es, clock, F, rfl, hM, hF⟩ hI)) rfl ?_;rintro _ _ _ ⟨hM2, _, ⟨rfl, rfl, hMM2⟩, rfl⟩;refine WL.know 29 (.tuple #[nt (((uptL b.deep.toNat).find? fun row => !canB b { plnQ b k with row := row + 1 }).getD 0), .bool ((uptL b.deep.toNat).find? fun row => !canB b { plnQ b k with row := row + 1 }).isSome]) rfl (by cases ((uptL b.deep.toNat).find? fun row => !canB b { plnQ b k with row := row + 1 }) <;> rfl) (g [[8],[3,7,6,4,2]] ?_);refine WL.so (SO.callP CaF.h rfl (fun w hI => zwg (uniN ((flwL b (plnQ b k)).take (b.last.toNat + 1))) (zym (zun hok _) _) (zub hne) b m hok qb mb D6 (hT.ext hX6) hq1 _ hI.imm)) rfl ?_;rintro _ _ _ ⟨rfl, rfl, e2_⟩;obtain rfl := e2_.symm;refine WL.yd (Yd.field (cs := [_, _]) Tryz.underlying81 rfl Tryz.isAgg3 rfl rfl) rfl (g [[2]] ?_);refine WL.so (SO.store 0 rfl SzF.h rfl rfl rfl rfl (zqb rfl) (za rfl)) rfl ?_;rintro _ _ _ ⟨rfl, rfl, e2_⟩;obtain rfl := e2_.symm;refine g [[3]] ?_;refine WP.ret1 rfl rfl rfl (RV.cellN AgF.h SzF.h rfl (vs := [_, _]) rfl (RdN.own (k := 0) (n := 2) rfl rfl)) (fun w1 hI => ⟨D6, _, hXX.trans hX6 (Nat.le_refl _), hI.drop 1, .inl ⟨_, rfl, rfl, hyes, hMM2⟩⟩)
theorem zxT (b : xb) (m : k4) (k : Nat) (hk : k < b.seen.length) (D : Imm) (hR : zmz D b m) (hok : xv b) (hT : LibT D) (w : World) (hH : Holds D w) : z8 Tryz.prog 34 [znc b m, nt k] w (.tuple #[.agg #[it (znH b k).1.lo, it (znH b k).1.hi], it (znH b k).2]) := by
  unfold z8;have hv : zmP b = true := znT.2 hok;have hb := bnum hok;have hO1 : canB b (plnQ b k) = true → znH b k = (neaI b k, 0) := fun h => by unfold znH; rw [if_neg (by rw [hv]; simp), if_neg (by rw [zoe hk]; simp)]; exact if_neg (by rw [show ((k : Nat) : Int).toNat = k from rfl, h]; simp)
  have hO2 : canB b (plnQ b k) = false → znH b k = (⟨0, 0⟩, 10) := fun h => by unfold znH; rw [if_neg (by rw [hv]; simp), if_neg (by rw [zoe hk]; simp)]; exact if_pos h
  refine enD Tryz.func34 rfl Tryz.ntmps34 (Inv.start hH) (g [[1],[1,0,1]] ?_);refine WL.so (SO.box rfl rfl) rfl (zw fun b2 hb2 => ?_);refine WL.so (SO.alloc ZvF.h rfl) rfl (zw fun b4 hb4 => ?_);refine WL.so (SO.alloc ZvF.h rfl) rfl (zw fun b5 hb5 => ?_);refine g [[3],[1,5,4,2,1]] ?_;refine WL.deferA rfl (g [[3],[0,5,4,2,1]] ?_);refine WC.drawD [_] (pz [1,3,5,11,6,8,12,14,16]) zk zk zX (fun _ hI => hI.drop 2) (g [[4]] ?_);refine WA.so rfl (SO.callP CaF.h rfl (fun w hI => zrH k b m D hR _ hI.imm)) rfl (zs ⟨fun _ hI => hI.drop 2, ?_⟩);refine WA.know 9 (.bool true) rfl (congrArg Value.bool (zoe hk)) (WA.so rfl (SO.newsF (Enters.func CaF.h rfl) (fun w1 hI => zr4 b m D hR w1 hI.imm hok)) rfl ?_);rintro _ D1 _ ⟨_, hX1, ⟨qb, mb, rfl, hq, rfl⟩, rfl⟩;refine ⟨fun _ hI => (hI.drop 3).shrink hX1.old, ?_⟩;refine WA.so rfl (SO.altersV (own := [_, _, _]) (hpc := [(mb, .map #[] 0)]) (S1 := [mb]) (zcM (List.perm_append_comm (l₁ := [_]) (l₂ := [_, _, _]))).1 (zcM (List.perm_append_comm (l₁ := [_]) (l₂ := [_, _, _]))).2 (fun _ h => h) (fun _ h => h) (Enters.func CaF.h rfl) (fun w1 _ hI => zvS k b m hok hk qb mb D1 (hR.ext hX1) hq (hT.ext hX1) w1 _ (ztE b mb) hI) ?_) rfl ?_
  · rintro _ D5 hp5 ⟨rfl, hno, hMM5⟩ hX5;have hO := hO2 hno;refine g [[1]] ?_;refine WP.panicDA (k := 0) [_, _] [_, _] rfl CaF.h rfl (fun w hI => zoI b5 10 0 _ w (hI.own _ _ (List.mem_of_getElem? (i := 0) rfl))) rfl zV (fun w hI => ⟨congrArg Ending.returned (by rw [hO]; rfl), hI.keep⟩)
  rintro _ D5 _ ⟨hp5, hX5, ⟨rfl, hyes, hMM5⟩, rfl⟩;have hO := hO1 hyes;refine ⟨fun _ hI => ((Inv.left (l1 := [_, _, _]) hI).drop 2).shrink (hX1.trans hX5 (Nat.le_refl _)).old, ?_⟩;refine WA.so rfl (SO.store 1 rfl SzF.h rfl rfl rfl rfl (zqb rfl) (za rfl)) rfl ?_;rintro _ _ _ ⟨rfl, rfl, rfl⟩;refine ⟨fun _ hI => ((Inv.left (l1 := [_, _, _]) hI).drop 2).shrink (hX1.trans hX5 (Nat.le_refl _)).old, ?_⟩;refine WA.so rfl (SO.store 0 rfl SzF.h rfl rfl rfl rfl (zqb rfl) (za rfl)) rfl ?_;rintro _ _ _ ⟨rfl, rfl, rfl⟩;refine ⟨fun _ hI => ((Inv.left (l1 := [_, _, _]) hI).drop 2).shrink (hX1.trans hX5 (Nat.le_refl _)).old, ?_⟩;refine g [[3]] ?_;refine WP.endDA [_, _] [_, _] rfl rfl CaF.h (fun w hI => zpf b5 w) rfl zV (fun w hI => ⟨congrArg Ending.returned (by rw [hO]; rfl), hI.keep⟩)
end Go.Proofs.YtaiegbjgfdhgaaaGreatDoor
