import Derived.Test.YtkhmmefgllbobaaXZH
set_option linter.unusedSimpArgs false
set_option linter.unusedVariables false
set_option linter.all false
namespace Go.Proofs.Ytkhmmefgllbobaa
open Go.W Go.Po

theorem at_perm {P : Program} {x : Cx} {fr fr' : Fr} {D : Imm} {hp hp' : Hp} {a : Act} {w : World} (hA : At x fr D hp a w) (hf : subB fr' fr) (hs : hp.Perm hp') : At x fr' D hp' a w :=
  ⟨hA.f.weaken (subB_get hf), hA.i.sub (fun _ he => hs.mem_iff.2 he) ((hs.map Prod.fst).nodup_iff.1 hA.i.nodup)⟩
theorem guard56 : Try.prog.eqGuardType Try.prog.depth 56 = false := by kernel_rfl
theorem guard47 : Try.prog.eqGuardType Try.prog.depth 47 = false := by kernel_rfl
set_option maxRecDepth 100000 in
theorem eq56 (x y : Bath) : ∀ w, (Op.equalIn 10000 56 (.agg (List.toArray [.bool x.lady, it x.place.lo, it x.place.hi])) (.agg (List.toArray [.bool y.lady, it y.place.lo, it y.place.hi]))).run Try.prog w = .ok (decide (x = y)) w := by
  intro w
  have h1 : (Op.equalIn 10000 56 (.agg (List.toArray [.bool x.lady, it x.place.lo, it x.place.hi])) (.agg (List.toArray [.bool y.lady, it y.place.lo, it y.place.hi]))).run Try.prog w = .ok (x.lady == y.lady && (x.place.lo == y.place.lo && x.place.hi == y.place.hi)) w := by
    simp [go_sem, Op.eqFields]
    by_cases h : x.lady = y.lady <;> by_cases h' : x.place.lo = y.place.lo <;> by_cases h'' : x.place.hi = y.place.hi <;> simp [h, h', h'']
  rw [h1]
  congr 1
  obtain ⟨l, a, b⟩ := x
  obtain ⟨l', a', b'⟩ := y
  rw [Bool.eq_iff_iff]; simp only [Bool.and_eq_true, beq_iff_eq, decide_eq_true_eq, Bath.mk.injEq, Sp.mk.injEq]
set_option maxRecDepth 100000 in
theorem eq47 (x y : PClaim) : ∀ w, (Op.equalIn 10000 47 (.agg (List.toArray [it x.a, it x.b, .bool x.not])) (.agg (List.toArray [it y.a, it y.b, .bool y.not]))).run Try.prog w = .ok (decide (x = y)) w := by
  intro w
  have h1 : (Op.equalIn 10000 47 (.agg (List.toArray [it x.a, it x.b, .bool x.not])) (.agg (List.toArray [it y.a, it y.b, .bool y.not]))).run Try.prog w = .ok (x.a == y.a && (x.b == y.b && x.not == y.not)) w := by
    simp [go_sem, Op.eqFields]
    by_cases h : x.a = y.a <;> by_cases h' : x.b = y.b <;> by_cases h'' : x.not = y.not <;> simp [h, h', h'']
  rw [h1]
  congr 1
  obtain ⟨a, b, c⟩ := x
  obtain ⟨a', b', c'⟩ := y
  rw [Bool.eq_iff_iff]; simp only [Bool.and_eq_true, beq_iff_eq, decide_eq_true_eq, PClaim.mk.injEq]
theorem turnB_flat (p : Post) (k : Nat) : (turnB p (k + 1)).flatMap bathC = (turnB p k).flatMap bathC ++ bathC (gt p.bathers (p.bathers.length - 1 - k)) := by
  unfold turnB; rw [List.range_succ, List.map_append, List.flatMap_append]; simp
theorem shiftB_flat (p : Post) (s : Int) (k : Nat) : (shiftB p s (k + 1)).flatMap bathC = (shiftB p s k).flatMap bathC ++ bathC (shB s (gt p.bathers k)) := by
  unfold shiftB; rw [List.range_succ, List.map_append, List.flatMap_append]; simp
theorem turnCs_flat (p : Post) (k : Nat) : (turnCs p (k + 1)).flatMap claimC = (turnCs p k).flatMap claimC ++ claimC (turnC (p.bathers.length : Int) (gt p.claims (p.claims.length - 1 - k))) := by
  unfold turnCs; rw [List.range_succ, List.map_append, List.flatMap_append]; simp
def pk2 {α : Type} (k : Nat) (a b : α) : α := if k = 0 then a else b
def zP (p : Post) (s : Int) (k : Nat) : Post := pk2 k (turnP p) (shiftP p s)
def zPi (p : Post) (k : Nat) (a : Int) : Int := pk2 k (backI (p.bathers.length : Int) a) a
def zSh (s : Int) (k : Nat) : Int := pk2 k 0 s
theorem z_same0 {p : Post} (hv : postB p = true) (s : Int) {k : Nat} (h : k = 0) : Same p (zP p s k) (zPi p k) (zSh s k) := by subst h; exact turn_same hv
theorem z_same1 {p : Post} (hv : postB p = true) {s : Int} (hs : 0 ≤ s) (hf : fitTo p s p.bathers.length = true) {k : Nat} (h : k = 1) : Same p (zP p s k) (zPi p k) (zSh s k) := by subst h; exact shift_same hv hs hf
theorem z_rdn {D : Imm} {hp : Hp} {b k j : Nat} {p : Post} {s : Int} {A1 A2 A3 A4 : Option Addr} {C1 C2 C3 C4 n1 n2 : Nat} {t : TypeId} {fz : Nat × Nat} (hk : k < 2)
    (h : hp[j]? = some (b, .cells (List.toArray [it p.post.lo, it p.post.hi, .slice A1 n1 C1, .slice A3 n2 C3, it (p.post.lo + s), it (p.post.hi + s), .slice A2 n1 C2, .slice A4 n2 C4]) t fz)) :
    RdN D hp b (0 + k * 4) [it (zP p s k).post.lo, it (zP p s k).post.hi, .slice (pk2 k A1 A2) n1 (pk2 k C1 C2), .slice (pk2 k A3 A4) n2 (pk2 k C3 C4)] := by
  rcases (show k = 0 ∨ k = 1 by omega) with rfl | rfl
  · exact RdN.own (k := j) (n := 4) h rfl
  · exact RdN.own (k := j) (n := 4) h rfl
theorem z_post {D : Imm} {p : Post} {s : Int} {k n1 n2 : Nat} {A1 A2 A3 A4 : Option Addr} (h0 : PostR D (turnP p) A1 n1 A3 n2) (h1 : PostR D (shiftP p s) A2 n1 A4 n2) : PostR D (zP p s k) (pk2 k A1 A2) n1 (pk2 k A3 A4) n2 := by
  unfold zP pk2
  split
  · exact h0
  · exact h1

set_option maxRecDepth 100000 in
set_option maxHeartbeats 1000000 in
theorem back46_g (n : Nat) (who : Int) (b : Nat) (D : Imm) (w : World) (h9 : D b = some (.cells (List.toArray [nt n]) 3 (0, 0))) (hH : Holds D w) (hn : n ≤ 1000) (hw : -1000 ≤ who ∧ who ≤ 1000) : Gives Try.prog 46 [it who, pt b] w (it (backI (n : Int) who)) := by
  unfold Gives
  refine enter Try.func46 rfl 11 Try.ntmps46 (Nat.le_of_ble_eq_true rfl) (Inv.start hH) ?_
  refine WC.seq ?_
  refine WC.ofFr [(0, _), (1, _)] ⟨rfl, rfl, trivial⟩ ?_
  refine WC.region ?_
  refine WL.yd (Yd.assign rfl) rfl ?_
  refine WL.nil ?_
  refine WP.thenC ?_
  refine WC.seq ?_
  refine WC.seq ?_
  refine WC.ofFr [(3, _), (0, _), (1, _)] ⟨rfl, rfl, rfl, trivial⟩ ?_
  refine WC.region ?_
  refine WL.yd (Yd.move rfl) rfl ?_
  refine WL.yd (Yd.lss rfl rfl) rfl ?_
  refine WL.nil ?_
  refine WP.thenC ?_
  refine WC.cond rfl (fun c5 => ?_) (fun c5 => ?_)
  · try simp only [zq1, zq2, zq3, zq4, zq5, zq6, zq7, zq8] at c5
    refine WC.seq ?_
    refine WC.ofFr [(3, _), (0, _), (1, _)] ⟨rfl, rfl, rfl, trivial⟩ ?_
    refine WC.region ?_
    refine WL.yd (Yd.move rfl) rfl ?_
    refine WL.yd (Yd.assign rfl) rfl ?_
    refine WL.nil ?_
    refine WP.thenC ?_
    refine WC.ret ?_
    refine WP.thenRet ?_
    refine WP.ret1 rfl rfl Try.results46 (RV.tmp rfl) (fun w hI => ⟨by rw [backI, if_pos c5], hI.keep⟩)
  · try simp only [zq1, zq2, zq3, zq4, zq5, zq6, zq7, zq8] at c5
    refine WC.skip ?_
    refine WP.thenC ?_
    refine WC.seq ?_
    refine WC.ofFr [(3, _), (0, _), (1, _)] ⟨rfl, rfl, rfl, trivial⟩ ?_
    refine WC.region ?_
    refine WL.yd (Yd.load1 Try.isAgg3 rfl (by first | exact (Rd.imm h9 rfl))) rfl ?_
    refine WL.yd (Yd.sub rfl rfl (wr64 ⟨by omega, by omega⟩)) rfl ?_
    refine WL.yd (Yd.move rfl) rfl ?_
    refine WL.yd (Yd.sub rfl rfl (wr64 ⟨by omega, by omega⟩)) rfl ?_
    refine WL.yd (Yd.assign rfl) rfl ?_
    refine WL.nil ?_
    refine WP.thenC ?_
    refine WC.ret ?_
    refine WP.ret1 rfl rfl Try.results46 (RV.tmp rfl) (fun w hI => ⟨by rw [backI, if_neg (by omega)], hI.keep⟩)

set_option maxRecDepth 100000 in
set_option maxHeartbeats 1000000 in
theorem turned12_l (lo hi : Int) (a1 : Option Addr) (n1 c1 : Nat) (a2 : Option Addr) (n2 c2 : Nat) (m1 m2 m3 : Nat) (D : Imm) (w : World) (hH : Holds D w) (hl : max (n1 : Int) (n2 : Int) > 40) : Gives Try.prog 12 [.agg #[it lo, it hi, .slice a1 n1 c1, .slice a2 n2 c2], .int .u8 (m1 : Int), .int .u8 (m2 : Int), .int .u8 (m3 : Int)] w (.bool true) := by
  unfold Gives
  refine enter Try.func12 rfl 454 Try.ntmps12 (Nat.le_of_ble_eq_true rfl) (Inv.start hH) ?_
  refine WC.seq ?_
  refine WC.ofFr [(0, _), (1, _), (2, _), (3, _)] ⟨rfl, rfl, rfl, rfl, trivial⟩ ?_
  refine WC.region ?_
  refine WL.so (SO.box rfl rfl) rfl ?_
  rintro _ _ _ ⟨b4, hb4, rfl, rfl, rfl⟩ -- NEW
  refine WL.yd (Yd.assign rfl) rfl ?_
  refine WL.nil ?_
  refine WP.thenC ?_
  refine WC.seq ?_
  refine WC.seq ?_
  refine WC.ofFr [(8, _), (4, _), (1, _), (2, _), (3, _)] ⟨rfl, rfl, rfl, rfl, rfl, trivial⟩ ?_
  refine WC.region ?_
  refine WL.yd (Yd.loadN Try.isAgg27 Try.sizeOf27 rfl (vs := [_, _, _, _]) rfl (by first | exact RdN.own (k := 0) (n := 4) rfl rfl)) rfl ?_
  refine WL.so (SO.callP Try.call38 rfl (fun w hI => long_g _ _ _ _ _ _ _ _ _)) rfl ?_
  rintro _ _ _ ⟨rfl, rfl, rfl⟩
  refine WL.know 65 (.bool true) rfl (congrArg Value.bool (decide_eq_true hl)) ?_
  refine WL.yd (Yd.move rfl) rfl ?_
  refine WL.skip rfl rfl ?_
  refine WL.skip rfl rfl ?_
  refine WL.skip rfl rfl ?_
  refine WL.yd (Yd.pickT rfl rfl) rfl ?_
  refine WL.nil ?_
  refine WP.thenC ?_
  refine WC.condT rfl ?_
  refine WC.seq ?_
  refine WC.ofFr [(8, _), (4, _), (1, _), (2, _), (3, _)] ⟨rfl, rfl, rfl, rfl, rfl, trivial⟩ ?_
  refine WC.region ?_
  refine WL.so (SO.callP Try.call14 rfl (fun w hI => alive_g _ _ hI.imm)) rfl ?_
  rintro _ _ _ ⟨rfl, rfl, rfl⟩
  refine WL.yd (Yd.assign rfl) rfl ?_
  refine WL.nil ?_
  refine WP.thenC ?_
  refine WC.ret ?_
  refine WP.thenRet ?_
  refine WP.ret1 rfl rfl Try.results12 (RV.tmp rfl) (fun w hI => ⟨rfl, hI.keep⟩)

set_option maxRecDepth 100000 in
set_option maxHeartbeats 1000000 in
theorem turned12_a (p : Post) (a1 : Option Addr) (n1 c1 : Nat) (a2 : Option Addr) (n2 c2 : Nat) (D : Imm) (w : World) (hR : PostR D p a1 n1 a2 n2) (hH : Holds D w) (m1 m2 m3 : Nat) (hl : ¬ (max (n1 : Int) (n2 : Int) > 40)) (hv : postB p = false) : Gives Try.prog 12 [.agg #[it p.post.lo, it p.post.hi, .slice a1 n1 c1, .slice a2 n2 c2], .int .u8 (m1 : Int), .int .u8 (m2 : Int), .int .u8 (m3 : Int)] w (.bool true) := by
  unfold Gives
  obtain rfl := hR.bath.len'
  obtain rfl := hR.claim.len'
  have hl1 := hR.len1
  have hl2 := hR.len2
  refine enter Try.func12 rfl 454 Try.ntmps12 (Nat.le_of_ble_eq_true rfl) (Inv.start hH) ?_
  refine WC.seq ?_
  refine WC.ofFr [(0, _), (1, _), (2, _), (3, _)] ⟨rfl, rfl, rfl, rfl, trivial⟩ ?_
  refine WC.region ?_
  refine WL.so (SO.box rfl rfl) rfl ?_
  rintro _ _ _ ⟨b4, hb4, rfl, rfl, rfl⟩ -- NEW
  refine WL.yd (Yd.assign rfl) rfl ?_
  refine WL.nil ?_
  refine WP.thenC ?_
  refine WC.seq ?_
  refine WC.seq ?_
  refine WC.ofFr [(8, _), (4, _), (1, _), (2, _), (3, _)] ⟨rfl, rfl, rfl, rfl, rfl, trivial⟩ ?_
  refine WC.region ?_
  refine WL.yd (Yd.loadN Try.isAgg27 Try.sizeOf27 rfl (vs := [_, _, _, _]) rfl (by first | exact RdN.own (k := 0) (n := 4) rfl rfl)) rfl ?_
  refine WL.so (SO.callP Try.call38 rfl (fun w hI => long_g _ _ _ _ _ _ _ _ _)) rfl ?_
  rintro _ _ _ ⟨rfl, rfl, rfl⟩
  refine WL.know 65 (.bool false) rfl (congrArg Value.bool (decide_eq_false hl)) ?_
  refine WL.yd (Yd.move rfl) rfl ?_
  refine WL.ydg rfl (Yd.loadN Try.isAgg27 Try.sizeOf27 rfl (vs := [_, _, _, _]) rfl (by first | exact RdN.own (k := 0) (n := 4) rfl rfl)) rfl ?_
  refine WL.sog rfl (SO.callP Try.call39 rfl (fun w hI => rpost_g p a1 _ c1 a2 _ c2 _ w hR hI.imm)) rfl ?_
  rintro _ _ _ ⟨rfl, rfl, rfl⟩
  refine WL.know 68 (.bool false) rfl (congrArg Value.bool hv) ?_
  refine WL.ydg rfl (Yd.not rfl) rfl ?_
  refine WL.yd (Yd.pickF rfl rfl) rfl ?_
  refine WL.nil ?_
  refine WP.thenC ?_
  refine WC.condT rfl ?_
  refine WC.seq ?_
  refine WC.ofFr [(8, _), (4, _), (1, _), (2, _), (3, _)] ⟨rfl, rfl, rfl, rfl, rfl, trivial⟩ ?_
  refine WC.region ?_
  refine WL.so (SO.callP Try.call14 rfl (fun w hI => alive_g _ _ hI.imm)) rfl ?_
  rintro _ _ _ ⟨rfl, rfl, rfl⟩
  refine WL.yd (Yd.assign rfl) rfl ?_
  refine WL.nil ?_
  refine WP.thenC ?_
  refine WC.ret ?_
  refine WP.thenRet ?_
  refine WP.ret1 rfl rfl Try.results12 (RV.tmp rfl) (fun w hI => ⟨rfl, hI.keep⟩)

theorem q0 {P : Program} {fn : Func} {R : Ending → World → Prop} : QuietPanic (bodyPost P fn R) := QuietPanic.body
theorem qb {id : Nat} {Q : Exit → Act → World → Prop} (h : QuietPanic Q) : QuietPanic (Exit.inBlock id Q) := QuietPanic.blk h
theorem qt {Q : Exit → Act → World → Prop} {K : Act → World → Prop} (h : QuietPanic Q) : QuietPanic (Exit.then K Q) := QuietPanic.then h
theorem qo {ops : Array Oper} {Q : Exit → Act → World → Prop} (h : QuietPanic Q) : QuietOn ops Q := fun _ o v c a w _ h' => h c o.dst v a w h'

set_option maxRecDepth 100000 in
set_option maxHeartbeats 6000000 in
theorem turned12_o (p : Post) (a1 : Option Addr) (n1 c1 : Nat) (a2 : Option Addr) (n2 c2 : Nat) (D : Imm) (w : World) (hR : PostR D p a1 n1 a2 n2) (hH : Holds D w) (m1 m2 m3 : Nat) (hm1 : m1 ≤ 255) (hm2 : m2 ≤ 255) (hm3 : m3 ≤ 255) (hl : ¬ (max (n1 : Int) (n2 : Int) > 40)) (hv : postB p = true) : Gives Try.prog 12 [.agg #[it p.post.lo, it p.post.hi, .slice a1 n1 c1, .slice a2 n2 c2], .int .u8 (m1 : Int), .int .u8 (m2 : Int), .int .u8 (m3 : Int)] w (.bool true) := by
  unfold Gives
  obtain rfl := hR.bath.len'
  obtain rfl := hR.claim.len'
  have hl1 := hR.len1
  have hl2 := hR.len2
  have hx1 : 0 ≤ (m1 : Int) % ((p.bathers.length : Int) + 1) ∧ (m1 : Int) % ((p.bathers.length : Int) + 1) < (p.bathers.length : Int) + 1 := ⟨Int.emod_nonneg _ (by omega), Int.emod_lt_of_pos _ (by omega)⟩
  have hx2 : 0 ≤ (m2 : Int) % ((p.bathers.length : Int) + 1) ∧ (m2 : Int) % ((p.bathers.length : Int) + 1) < (p.bathers.length : Int) + 1 := ⟨Int.emod_nonneg _ (by omega), Int.emod_lt_of_pos _ (by omega)⟩
  have hpn := (post_num hv).1
  have h5 := (post_num hv).2.1
  have h8 := (post_num hv).2.2.1
  refine enter Try.func12 rfl 454 Try.ntmps12 (Nat.le_of_ble_eq_true rfl) (Inv.start hH) ?_
  refine WC.seq ?_
  refine WC.ofFr [(0, _), (1, _), (2, _), (3, _)] ⟨rfl, rfl, rfl, rfl, trivial⟩ ?_
  refine WC.region ?_
  refine WL.so (SO.box rfl rfl) rfl ?_
  rintro _ _ _ ⟨b4, hb4, rfl, rfl, rfl⟩ -- NEW
  refine WL.yd (Yd.assign rfl) rfl ?_
  refine WL.nil ?_
  refine WP.thenC ?_
  refine WC.seq ?_
  refine WC.seq ?_
  refine WC.ofFr [(8, _), (4, _), (1, _), (2, _), (3, _)] ⟨rfl, rfl, rfl, rfl, rfl, trivial⟩ ?_
  refine WC.region ?_
  refine WL.yd (Yd.loadN Try.isAgg27 Try.sizeOf27 rfl (vs := [_, _, _, _]) rfl (RdN.own (k := 0) (n := 4) rfl rfl)) rfl ?_
  refine WL.so (SO.callP Try.call38 rfl (fun w hI => long_g _ _ _ _ _ _ _ _ _)) rfl ?_
  rintro _ _ _ ⟨rfl, rfl, rfl⟩
  refine WL.know 65 (.bool false) rfl (congrArg Value.bool (decide_eq_false hl)) ?_
  refine WL.yd (Yd.move rfl) rfl ?_
  refine WL.ydg rfl (Yd.loadN Try.isAgg27 Try.sizeOf27 rfl (vs := [_, _, _, _]) rfl (RdN.own (k := 0) (n := 4) rfl rfl)) rfl ?_
  refine WL.sog rfl (SO.callP Try.call39 rfl (fun w hI => rpost_g p a1 _ c1 a2 _ c2 _ w hR hI.imm)) rfl ?_
  rintro _ _ _ ⟨rfl, rfl, rfl⟩
  refine WL.know 68 (.bool true) rfl (congrArg Value.bool hv) ?_
  refine WL.ydg rfl (Yd.not rfl) rfl ?_
  refine WL.yd (Yd.pickF rfl rfl) rfl ?_
  refine WL.nil ?_
  refine WP.thenC ?_
  refine WC.condF rfl ?_
  refine WC.skip ?_
  refine WP.thenC ?_
  refine WC.seq ?_
  refine WC.ofFr [(8, _), (4, _), (1, _), (2, _), (3, _)] ⟨rfl, rfl, rfl, rfl, rfl, trivial⟩ ?_
  refine WC.region ?_
  refine WL.yd (Yd.fieldAddr FA27_1 rfl) rfl ?_
  refine WL.yd (Yd.load1 Try.isAgg24 rfl (Rd.own (k := 0) rfl rfl)) rfl ?_
  refine WL.yd (Yd.lenS rfl Try.underlying24 rfl) rfl ?_
  refine WL.yd (Yd.move rfl) rfl ?_
  refine WL.yd (Yd.conv Try.underlying5 Try.underlying3 rfl (wr64 ⟨by omega, by omega⟩)) rfl ?_
  refine WL.yd (Yd.rem rfl rfl (by omega) (by omega)) rfl ?_
  refine WL.so (SO.alloc Try.zeroValue3 rfl) rfl ?_
  rintro _ _ _ ⟨b9, hb9, rfl, rfl, rfl⟩ -- NEW
  refine WL.so (SO.store 0 rfl Try.sizeOf3 rfl rfl rfl rfl (Nat.le_of_ble_eq_true rfl) (oneB_spec rfl)) rfl ?_
  rintro _ _ _ ⟨rfl, rfl, rfl⟩
  refine WL.yd (Yd.assign rfl) rfl ?_
  refine WL.nil ?_
  refine WP.thenC ?_
  refine WC.seq ?_
  refine WC.freezeK 0 rfl (fun hn9 => ?_)
  refine WC.freezeK 0 rfl (fun hn4 => ?_)
  have hX1 : DExt w D ((D.add b9 (.cells (List.toArray [nt p.bathers.length]) 3 (0, 0))).add b4 (.cells (List.toArray [it p.post.lo, it p.post.hi, .slice a1 p.bathers.length c1, .slice a2 p.claims.length c2]) 27 (0, 0))) := ((DExt.refl w D).add hn9 hb9).add hn4 hb4
  have hP : ((D.add b9 (.cells (List.toArray [nt p.bathers.length]) 3 (0, 0))).add b4 (.cells (List.toArray [it p.post.lo, it p.post.hi, .slice a1 p.bathers.length c1, .slice a2 p.claims.length c2]) 27 (0, 0))) b4 = some (.cells (List.toArray [it p.post.lo, it p.post.hi, .slice a1 p.bathers.length c1, .slice a2 p.claims.length c2]) 27 (0, 0)) := Imm.add_self _ _ _
  have h9 : ((D.add b9 (.cells (List.toArray [nt p.bathers.length]) 3 (0, 0))).add b4 (.cells (List.toArray [it p.post.lo, it p.post.hi, .slice a1 p.bathers.length c1, .slice a2 p.claims.length c2]) 27 (0, 0))) b9 = some (.cells (List.toArray [nt p.bathers.length]) 3 (0, 0)) := ((DExt.refl w _).add hn4 hb4).old _ _ (Imm.add_self _ _ _)
  replace hR := hR.ext hX1
  refine (?_ : WC Try.prog _ _ ((D.add b9 (.cells (List.toArray [nt p.bathers.length]) 3 (0, 0))).add b4 (.cells (List.toArray [it p.post.lo, it p.post.hi, .slice a1 p.bathers.length c1, .slice a2 p.claims.length c2]) 27 (0, 0))) [] _ _)
  generalize (D.add b9 (.cells (List.toArray [nt p.bathers.length]) 3 (0, 0))).add b4 (.cells (List.toArray [it p.post.lo, it p.post.hi, .slice a1 p.bathers.length c1, .slice a2 p.claims.length c2]) 27 (0, 0)) = D1 at hX1 hP h9 hR ⊢
  generalize hEs : (m3 : Int) % 30 = s
  have hs : 0 ≤ s ∧ s < 30 := by omega
  refine WC.ofFr [(10, _), (9, _), (8, _), (4, _), (1, _), (2, _)] ⟨rfl, rfl, rfl, rfl, rfl, rfl, trivial⟩ ?_
  refine WC.region ?_
  refine WL.yd (Yd.func rfl rfl) rfl ?_
  refine WL.yd (Yd.assign rfl) rfl ?_
  refine WL.nil ?_
  refine WP.thenC ?_
  refine WC.seqJ (fun y : Nat × Nat => [(1, .int .u8 (m1 : Int)), (2, .int .u8 (m2 : Int)), (4, pt b4), (9, pt b9), (10, it s), (11, .func (.func 46) #[] #[pt b9]), (12, pt y.1), (13, pt y.2)]) (fun y => [(y.2, .cells (List.toArray [it (p.post.lo + s), it (p.post.hi + s), .slice none 0 0, .slice a2 p.claims.length c2]) 27 (0, 0)), (y.1, .cells (List.toArray [it p.post.lo, it p.post.hi, .slice none 0 0, .slice none 0 0]) 27 (0, 0))]) (fun _ => D1) (fun _ => True) ?_ ?_
  · rintro ⟨b12, b13⟩ _
    dsimp only
    refine WC.seq ?_
    refine WC.ofFr [(1, _), (2, _), (4, _), (9, _), (10, _), (11, _), (12, _), (13, _)] ⟨rfl, rfl, rfl, rfl, rfl, rfl, rfl, rfl, trivial⟩ ?_
    refine WC.region ?_
    refine WL.yd (Yd.fieldAddr FA27_0 rfl) rfl ?_
    refine WL.yd (Yd.fieldAddr FA23_1 rfl) rfl ?_
    refine WL.yd (Yd.load1 Try.isAgg3 rfl (by first | exact (Rd.imm hP rfl) | exact (Rd.imm h9 rfl))) rfl ?_
    refine WL.yd (Yd.move rfl) rfl ?_
    refine WL.yd (Yd.add rfl rfl (wr64 ⟨by omega, by omega⟩)) rfl ?_
    refine WL.yd (Yd.leq rfl rfl) rfl ?_
    refine WL.yd (Yd.assign rfl) rfl ?_
    refine WL.nil ?_
    refine WP.thenC ?_
    refine WC.seq ?_
    refine WC.seq ?_
    refine WC.ofFr [(14, _), (1, _), (2, _), (4, _), (9, _), (10, _), (11, _), (12, _), (13, _)] ⟨rfl, rfl, rfl, rfl, rfl, rfl, rfl, rfl, rfl, trivial⟩ ?_
    refine WC.region ?_
    refine WL.yd (Yd.fieldAddr FA27_1 rfl) rfl ?_
    refine WL.yd (Yd.load1 Try.isAgg24 rfl (by first | exact (Rd.imm hP rfl) | exact (Rd.imm h9 rfl))) rfl ?_
    refine WL.yd (Yd.lenS rfl Try.underlying24 rfl) rfl ?_
    refine WL.yd (Yd.move rfl) rfl ?_
    refine WL.nil ?_
    refine WP.thenC ?_
    refine WC.block ?_
    refine WC.loop (fun y : Nat × Option Ow × Option Ow => [(1, .int .u8 (m1 : Int)), (2, .int .u8 (m2 : Int)), (4, pt b4), (9, pt b9), (10, it s), (11, .func (.func 46) #[] #[pt b9]), (12, pt b12), (13, pt b13), (14, .bool (fitTo p s y.1)), (103, .slice a1 p.bathers.length c1), (104, nt p.bathers.length), (105, nt y.1)]) (fun y => (b13, .cells (List.toArray [it (p.post.lo + s), it (p.post.hi + s), owV y.2.2 y.1, .slice a2 p.claims.length c2]) 27 (0, 0)) :: (b12, .cells (List.toArray [it p.post.lo, it p.post.hi, owV y.2.1 y.1, .slice none 0 0]) 27 (0, 0)) :: owH y.2.1 56 ((turnB p y.1).flatMap bathC) (owH y.2.2 56 ((shiftB p s y.1).flatMap bathC) [])) (fun _ => D1) (fun y => y.1 ≤ p.bathers.length ∧ owP w y.2.1 y.1 3 ∧ owP w y.2.2 y.1 3) (fun y => p.bathers.length - y.1) (0, none, none) ⟨by omega, rfl, rfl⟩ (fun a w h => at_fr h ⟨rfl, rfl, rfl, rfl, rfl, rfl, rfl, rfl, rfl, rfl, rfl, rfl, trivial⟩) ?_
    rintro ⟨k, o1, o2⟩ ⟨hk, ho1, ho2⟩
    dsimp only at hk ho1 ho2
    refine WC.seq ?_
    refine WC.ofFr [(1, _), (2, _), (4, _), (9, _), (10, _), (11, _), (12, _), (13, _), (14, _), (103, _), (104, _), (105, _)] ⟨rfl, rfl, rfl, rfl, rfl, rfl, rfl, rfl, rfl, rfl, rfl, rfl, trivial⟩ ?_
    refine WC.region ?_
    refine WL.yd (Yd.lss rfl rfl) rfl ?_
    refine WL.nil ?_
    refine WP.thenC ?_
    refine WC.seq ?_
    refine WC.cond rfl (fun c106 => ?_) (fun c106 => ?_)
    · try simp only [zq1, zq2, zq3, zq4, zq5, zq6, zq7, zq8] at c106
      have hbk := (post_num hv).2.2.2.1 k (by omega)
      refine WC.skip ?_
      refine WP.thenC ?_
      refine WC.seq ?_
      refine WC.block ?_
      refine WC.seq ?_
      refine WC.ofFr [(1, _), (2, _), (4, _), (9, _), (10, _), (11, _), (12, _), (13, _), (14, _), (103, _), (104, _), (105, _)] ⟨rfl, rfl, rfl, rfl, rfl, rfl, rfl, rfl, rfl, rfl, rfl, rfl, trivial⟩ ?_
      refine WC.region ?_
      refine WL.yd (Yd.move rfl) rfl ?_
      refine WL.yd (Yd.indexS Try.underlying24 Try.sizeOf56 rfl rfl (by omega) (by omega) (by first | exact hR.bath.addr k (by omega))) rfl ?_
      refine WL.yd (Yd.loadN Try.isAgg56 Try.sizeOf56 rfl (vs := [_, _, _]) rfl ((hR.bath.at k (by omega)).rdn 0 3 rfl)) rfl ?_
      refine WL.so (SO.alloc Try.zeroValue56 rfl) rfl ?_
      rintro _ _ _ ⟨b16, hb16, rfl, rfl, rfl⟩ -- NEW
      refine WL.yd (Yd.assign rfl) rfl ?_
      refine WL.so (SO.store 0 rfl Try.sizeOf56 rfl rfl rfl rfl (Nat.le_of_ble_eq_true rfl) (oneB_spec rfl)) rfl ?_
      rintro _ _ _ ⟨rfl, rfl, rfl⟩
      refine WL.nil ?_
      refine WP.thenC ?_
      refine WC.seq ?_
      refine WC.ofFr [(15, _), (16, _), (1, _), (2, _), (4, _), (9, _), (10, _), (11, _), (12, _), (13, _), (14, _), (103, _), (104, _), (105, _)] ⟨rfl, rfl, rfl, rfl, rfl, rfl, rfl, rfl, rfl, rfl, rfl, rfl, rfl, rfl, trivial⟩ ?_
      refine WC.drawH [] (by kernel_rfl) (fun _ hI => Inv.nil hI) ?_
      refine WH.yd (i := 0) (by kernel_rfl) (qo (qt (qb (qt (qt (qb (qt q0))))))) rfl (Yd.fieldAddr FA27_1 rfl) rfl ?_
      refine WH.yd (i := 2) (by kernel_rfl) (qo (qt (qb (qt (qt (qb (qt q0))))))) rfl (Yd.fieldAddr FA27_1 rfl) rfl ?_
      refine WH.yd (i := 3) (by kernel_rfl) (qo (qt (qb (qt (qt (qb (qt q0))))))) rfl (Yd.load1 Try.isAgg24 rfl (by first | exact Rd.own (k := 0) rfl rfl | exact Rd.own (k := 1) rfl rfl | exact Rd.own (k := 2) rfl rfl | exact Rd.own (k := 3) rfl rfl | exact Rd.own (k := 4) rfl rfl | exact (Rd.imm hP rfl) | exact (Rd.imm h9 rfl))) rfl ?_
      refine WH.yd (i := 4) (by kernel_rfl) (qo (qt (qb (qt (qt (qb (qt q0))))))) rfl (Yd.load1 Try.isAgg3 rfl (by first | exact Rd.own (k := 0) rfl rfl | exact Rd.own (k := 1) rfl rfl | exact Rd.own (k := 2) rfl rfl | exact Rd.own (k := 3) rfl rfl | exact Rd.own (k := 4) rfl rfl | exact (Rd.imm hP rfl) | exact (Rd.imm h9 rfl))) rfl ?_
      refine WH.yd (i := 5) (by kernel_rfl) (qo (qt (qb (qt (qt (qb (qt q0))))))) rfl (Yd.subN (j := 1) rfl rfl (by omega) (by omega)) rfl ?_
      refine WH.yd (i := 6) (by kernel_rfl) (qo (qt (qb (qt (qt (qb (qt q0))))))) rfl (Yd.move rfl) rfl ?_
      refine WH.yd (i := 7) (by kernel_rfl) (qo (qt (qb (qt (qt (qb (qt q0))))))) rfl (Yd.subN rfl rfl (by omega) (by omega)) rfl ?_
      refine WH.yd (i := 8) (by kernel_rfl) (qo (qt (qb (qt (qt (qb (qt q0))))))) rfl (Yd.indexS Try.underlying24 Try.sizeOf56 rfl rfl (by omega) (by omega) (by first | exact hR.bath.addr (p.bathers.length - 1 - k) (by omega))) rfl ?_
      refine WH.yd (i := 9) (by kernel_rfl) (qo (qt (qb (qt (qt (qb (qt q0))))))) rfl (Yd.loadN Try.isAgg56 Try.sizeOf56 rfl (vs := [_, _, _]) rfl (by first | exact RdN.own (k := 0) (n := 3) rfl rfl | exact RdN.own (k := 1) (n := 3) rfl rfl | exact RdN.own (k := 2) (n := 3) rfl rfl | exact RdN.own (k := 3) (n := 3) rfl rfl | exact RdN.own (k := 4) (n := 3) rfl rfl | exact ((hR.bath.at (p.bathers.length - 1 - k) (by omega)).rdn 0 3 rfl))) rfl ?_
      refine WH.two (i := 1) (j := 10) (by kernel_rfl) ?_ ?_
      · refine WHo.yd rfl (Yd.load1 Try.isAgg24 rfl (Rd.own (k := 2) rfl rfl)) rfl ?_
        refine WH.one (i := 10) (by kernel_rfl) (WHo.so rfl (SO.buildSlice Try.underlying24 Try.sizeOf56 Try.zeroValue56 rfl rfl rfl rfl (cs := [_, _, _]) rfl) rfl ?_)
        rintro _ _ _ ⟨b120, hb120, rfl, rfl, rfl⟩ -- NEW
        refine ⟨(fun _ hI => Inv.nil hI), ?_⟩
        refine WH.one (i := 11) (by kernel_rfl) (WHo.so rfl (SO.appendOw (o := o1) (len := k) (n := 1) (xs := ((turnB p k).flatMap bathC)) (size := 3) [] [_, _, _, _] _ rfl rfl Try.underlying24 Try.sizeOf56 Try.typeInfo56 Try.zeroValue56 rfl rfl rfl rfl ⟨rfl, .inr ⟨_, _, _, rfl, RdN.own (k := 0) (n := 3) rfl rfl⟩⟩ (oneB_spec rfl) ho1 (by rw [flat_len bathC_len, turn_lenB]) (by omega) (by show (2 * (_ + _) + 1000) * 24 ≤ 2 ^ 48; omega) (by omega)) rfl ?_)
        rintro _ _ _ ⟨u1, hu1, rfl, rfl, rfl⟩
        refine ⟨(fun _ hI => Inv.nil hI), ?_⟩
        refine WH.yd (i := 12) (by kernel_rfl) (qo (qt (qb (qt (qt (qb (qt q0))))))) rfl (Yd.fieldAddr FA27_1 rfl) rfl ?_
        refine WH.one (i := 13) (by kernel_rfl) (WHo.so rfl (SO.store 3 rfl Try.sizeOf24 rfl rfl rfl rfl (Nat.le_of_ble_eq_true rfl) (oneB_spec rfl)) rfl ?_)
        rintro _ _ _ ⟨rfl, rfl, rfl⟩
        refine ⟨(fun _ hI => Inv.nil hI), ?_⟩
        refine WH.nil (by kernel_rfl) ?_
        refine WP.thenC ?_
        refine WC.seq ?_
        refine WC.ofFr [(16, _), (1, _), (2, _), (4, _), (9, _), (10, _), (11, _), (12, _), (13, _), (14, _), (103, _), (104, _), (105, _)] ⟨rfl, rfl, rfl, rfl, rfl, rfl, rfl, rfl, rfl, rfl, rfl, rfl, rfl, trivial⟩ ?_
        refine WC.drawH [(b16, .cells (List.toArray [.bool (gt p.bathers k).lady, it (gt p.bathers k).place.lo, it (gt p.bathers k).place.hi]) 56 (0, 0))] (by kernel_rfl) (fun _ hI => Inv.pick 1 rfl hI) ?_
        refine WH.yd (i := 0) (by kernel_rfl) (qo (qt (qb (qt (qt (qb (qt q0))))))) rfl (Yd.fieldAddr FA27_1 rfl) rfl ?_
        refine WH.yd (i := 2) (by kernel_rfl) (qo (qt (qb (qt (qt (qb (qt q0))))))) rfl (Yd.fieldAddr FA56_0 rfl) rfl ?_
        refine WH.yd (i := 3) (by kernel_rfl) (qo (qt (qb (qt (qt (qb (qt q0))))))) rfl (Yd.load1 Try.isAgg4 rfl (by first | exact Rd.own (k := 0) rfl rfl | exact Rd.own (k := 1) rfl rfl | exact Rd.own (k := 2) rfl rfl | exact Rd.own (k := 3) rfl rfl | exact Rd.own (k := 4) rfl rfl | exact Rd.own (k := 5) rfl rfl | exact (Rd.imm hP rfl) | exact (Rd.imm h9 rfl))) rfl ?_
        refine WH.yd (i := 4) (by kernel_rfl) (qo (qt (qb (qt (qt (qb (qt q0))))))) rfl (Yd.fieldAddr FA56_1 rfl) rfl ?_
        refine WH.yd (i := 5) (by kernel_rfl) (qo (qt (qb (qt (qt (qb (qt q0))))))) rfl (Yd.fieldAddr FA23_0 rfl) rfl ?_
        refine WH.yd (i := 6) (by kernel_rfl) (qo (qt (qb (qt (qt (qb (qt q0))))))) rfl (Yd.load1 Try.isAgg3 rfl (by first | exact Rd.own (k := 0) rfl rfl | exact Rd.own (k := 1) rfl rfl | exact Rd.own (k := 2) rfl rfl | exact Rd.own (k := 3) rfl rfl | exact Rd.own (k := 4) rfl rfl | exact Rd.own (k := 5) rfl rfl | exact (Rd.imm hP rfl) | exact (Rd.imm h9 rfl))) rfl ?_
        refine WH.yd (i := 7) (by kernel_rfl) (qo (qt (qb (qt (qt (qb (qt q0))))))) rfl (Yd.move rfl) rfl ?_
        refine WH.yd (i := 8) (by kernel_rfl) (qo (qt (qb (qt (qt (qb (qt q0))))))) rfl (Yd.add rfl rfl (wr64 ⟨by omega, by omega⟩)) rfl ?_
        refine WH.yd (i := 9) (by kernel_rfl) (qo (qt (qb (qt (qt (qb (qt q0))))))) rfl (Yd.fieldAddr FA56_1 rfl) rfl ?_
        refine WH.yd (i := 10) (by kernel_rfl) (qo (qt (qb (qt (qt (qb (qt q0))))))) rfl (Yd.fieldAddr FA23_1 rfl) rfl ?_
        refine WH.yd (i := 11) (by kernel_rfl) (qo (qt (qb (qt (qt (qb (qt q0))))))) rfl (Yd.load1 Try.isAgg3 rfl (by first | exact Rd.own (k := 0) rfl rfl | exact Rd.own (k := 1) rfl rfl | exact Rd.own (k := 2) rfl rfl | exact Rd.own (k := 3) rfl rfl | exact Rd.own (k := 4) rfl rfl | exact Rd.own (k := 5) rfl rfl | exact (Rd.imm hP rfl) | exact (Rd.imm h9 rfl))) rfl ?_
        refine WH.yd (i := 12) (by kernel_rfl) (qo (qt (qb (qt (qt (qb (qt q0))))))) rfl (Yd.move rfl) rfl ?_
        refine WH.yd (i := 13) (by kernel_rfl) (qo (qt (qb (qt (qt (qb (qt q0))))))) rfl (Yd.add rfl rfl (wr64 ⟨by omega, by omega⟩)) rfl ?_
        refine WH.two (i := 1) (j := 14) (by kernel_rfl) ?_ ?_
        · refine WHo.yd rfl (Yd.load1 Try.isAgg24 rfl (Rd.own (k := 2) rfl rfl)) rfl ?_
          refine WH.one (i := 14) (by kernel_rfl) (WHo.so rfl (SO.callP Try.call32 rfl (fun w hI => lspan_g _ _ _)) rfl ?_)
          rintro _ _ _ ⟨rfl, rfl, rfl⟩
          refine ⟨(fun _ hI => Inv.pick 1 rfl hI), ?_⟩
          refine WH.yd (i := 15) (by kernel_rfl) (qo (qt (qb (qt (qt (qb (qt q0))))))) rfl (Yd.build SA56 rfl (cs := [_, _, _]) rfl) rfl ?_
          refine WH.one (i := 16) (by kernel_rfl) (WHo.so rfl (SO.buildSlice Try.underlying24 Try.sizeOf56 Try.zeroValue56 rfl rfl rfl rfl (cs := [_, _, _]) rfl) rfl ?_)
          rintro _ _ _ ⟨b139, hb139, rfl, rfl, rfl⟩ -- NEW
          refine ⟨(fun _ hI => Inv.pick 2 rfl hI), ?_⟩
          refine WH.one (i := 17) (by kernel_rfl) (WHo.so rfl (SO.appendOw (o := o2) (len := k) (n := 1) (xs := ((shiftB p s k).flatMap bathC)) (size := 3) [] [_, _, _, _, _, _] _ rfl rfl Try.underlying24 Try.sizeOf56 Try.typeInfo56 Try.zeroValue56 rfl rfl rfl rfl ⟨rfl, .inr ⟨_, _, _, rfl, RdN.own (k := 0) (n := 3) rfl rfl⟩⟩ (oneB_spec rfl) ho2 (by rw [flat_len bathC_len, shift_len]) (by omega) (by show (2 * (_ + _) + 1000) * 24 ≤ 2 ^ 48; omega) (by omega)) rfl ?_)
          rintro _ _ _ ⟨u2, hu2, rfl, rfl, rfl⟩
          refine ⟨(fun _ hI => Inv.pick 2 rfl hI), ?_⟩
          refine WH.yd (i := 18) (by kernel_rfl) (qo (qt (qb (qt (qt (qb (qt q0))))))) rfl (Yd.fieldAddr FA27_1 rfl) rfl ?_
          refine WH.one (i := 19) (by kernel_rfl) (WHo.so rfl (SO.store 3 rfl Try.sizeOf24 rfl rfl rfl rfl (Nat.le_of_ble_eq_true rfl) (oneB_spec rfl)) rfl ?_)
          rintro _ _ _ ⟨rfl, rfl, rfl⟩
          refine ⟨(fun _ hI => Inv.pick 2 rfl hI), ?_⟩
          refine WH.nil (by kernel_rfl) ?_
          refine WP.thenC ?_
          refine WC.ofFr [(16, _), (1, _), (2, _), (4, _), (9, _), (10, _), (11, _), (12, _), (13, _), (14, _), (103, _), (104, _), (105, _)] ⟨rfl, rfl, rfl, rfl, rfl, rfl, rfl, rfl, rfl, rfl, rfl, rfl, rfl, trivial⟩ ?_
          refine WC.region ?_
          refine WL.yd (Yd.move rfl) rfl ?_
          refine WL.yd (Yd.move rfl) rfl ?_
          refine WL.part 143 rfl (fun g143 => ?_) (fun g143 => ?_)
          · try simp only [zq1, zq2, zq3, zq4, zq5, zq6, zq7, zq8] at g143
            have ef : fitTo p s (k + 1) = decide ((gt p.bathers k).place.hi + s ≤ 40) := by show (fitTo p s k && _) = _; rw [g143]; rfl
            refine WL.ydg rfl (Yd.fieldAddr FA56_1 rfl) rfl ?_
            refine WL.ydg rfl (Yd.fieldAddr FA23_1 rfl) rfl ?_
            refine WL.ydg rfl (Yd.load1 Try.isAgg3 rfl (Rd.own (k := 2) rfl rfl)) rfl ?_
            refine WL.ydg rfl (Yd.move rfl) rfl ?_
            refine WL.ydg rfl (Yd.add rfl rfl (wr64 ⟨by omega, by omega⟩)) rfl ?_
            refine WL.ydg rfl (Yd.leq rfl rfl) rfl ?_
            refine WL.yd (Yd.pickT rfl rfl) rfl ?_
            refine WL.yd (Yd.assign rfl) rfl ?_
            refine WL.nil ?_
            refine WP.blkNormal ?_
            refine WP.thenC ?_
            refine WC.ofFr [(14, _), (1, _), (2, _), (4, _), (9, _), (10, _), (11, _), (12, _), (13, _), (103, _), (104, _), (105, _)] ⟨rfl, rfl, rfl, rfl, rfl, rfl, rfl, rfl, rfl, rfl, rfl, rfl, trivial⟩ ?_
            refine WC.region ?_
            refine WL.yd (Yd.add rfl rfl (wr64 ⟨by omega, by omega⟩)) rfl ?_
            refine WL.yd (Yd.move rfl) rfl ?_
            refine WL.nil ?_
            refine WP.again (⟨k + 1, some u1, some u2⟩ : Nat × Option Ow × Option Ow) ⟨by simp only; omega, hu1, hu2⟩ (by simp only; omega) (fun aa ww h => ?_)
            show At _ [(1, .int .u8 (m1 : Int)), (2, .int .u8 (m2 : Int)), (4, pt b4), (9, pt b9), (10, it s), (11, .func (.func 46) #[] #[pt b9]), (12, pt b12), (13, pt b13), (14, .bool (fitTo p s (k + 1))), (103, .slice a1 p.bathers.length c1), (104, nt p.bathers.length), (105, nt (k + 1))] D1 ((b13, .cells (List.toArray [it (p.post.lo + s), it (p.post.hi + s), owV (some u2) (k + 1), .slice a2 p.claims.length c2]) 27 (0, 0)) :: (b12, .cells (List.toArray [it p.post.lo, it p.post.hi, owV (some u1) (k + 1), .slice none 0 0]) 27 (0, 0)) :: owH (some u1) 56 ((turnB p (k + 1)).flatMap bathC) (owH (some u2) 56 ((shiftB p s (k + 1)).flatMap bathC) [])) aa ww
            rw [ef, turnB_flat, shiftB_flat]
            exact at_less h ⟨rfl, rfl, rfl, rfl, rfl, rfl, rfl, rfl, rfl, rfl, rfl, rfl, trivial⟩ (fun _ h => .tail _ (.tail _ (.tail _ h))) (fun h => (List.nodup_cons.1 (List.nodup_cons.1 (List.nodup_cons.1 h).2).2).2)
          · try simp only [zq1, zq2, zq3, zq4, zq5, zq6, zq7, zq8] at g143
            have ef : fitTo p s (k + 1) = false := by show (fitTo p s k && _) = _; rw [g143]; rfl
            refine WL.skip rfl rfl ?_
            refine WL.skip rfl rfl ?_
            refine WL.skip rfl rfl ?_
            refine WL.skip rfl rfl ?_
            refine WL.skip rfl rfl ?_
            refine WL.skip rfl rfl ?_
            refine WL.yd (Yd.pickF rfl rfl) rfl ?_
            refine WL.yd (Yd.assign rfl) rfl ?_
            refine WL.nil ?_
            refine WP.blkNormal ?_
            refine WP.thenC ?_
            refine WC.ofFr [(14, _), (1, _), (2, _), (4, _), (9, _), (10, _), (11, _), (12, _), (13, _), (103, _), (104, _), (105, _)] ⟨rfl, rfl, rfl, rfl, rfl, rfl, rfl, rfl, rfl, rfl, rfl, rfl, trivial⟩ ?_
            refine WC.region ?_
            refine WL.yd (Yd.add rfl rfl (wr64 ⟨by omega, by omega⟩)) rfl ?_
            refine WL.yd (Yd.move rfl) rfl ?_
            refine WL.nil ?_
            refine WP.again (⟨k + 1, some u1, some u2⟩ : Nat × Option Ow × Option Ow) ⟨by simp only; omega, hu1, hu2⟩ (by simp only; omega) (fun aa ww h => ?_)
            show At _ [(1, .int .u8 (m1 : Int)), (2, .int .u8 (m2 : Int)), (4, pt b4), (9, pt b9), (10, it s), (11, .func (.func 46) #[] #[pt b9]), (12, pt b12), (13, pt b13), (14, .bool (fitTo p s (k + 1))), (103, .slice a1 p.bathers.length c1), (104, nt p.bathers.length), (105, nt (k + 1))] D1 ((b13, .cells (List.toArray [it (p.post.lo + s), it (p.post.hi + s), owV (some u2) (k + 1), .slice a2 p.claims.length c2]) 27 (0, 0)) :: (b12, .cells (List.toArray [it p.post.lo, it p.post.hi, owV (some u1) (k + 1), .slice none 0 0]) 27 (0, 0)) :: owH (some u1) 56 ((turnB p (k + 1)).flatMap bathC) (owH (some u2) 56 ((shiftB p s (k + 1)).flatMap bathC) [])) aa ww
            rw [ef, turnB_flat, shiftB_flat]
            exact at_less h ⟨rfl, rfl, rfl, rfl, rfl, rfl, rfl, rfl, rfl, rfl, rfl, rfl, trivial⟩ (fun _ h => .tail _ (.tail _ (.tail _ h))) (fun h => (List.nodup_cons.1 (List.nodup_cons.1 (List.nodup_cons.1 h).2).2).2)
        · refine WHo.so rfl (SO.callP Try.call32 rfl (fun w hI => lspan_g _ _ _)) rfl ?_
          rintro _ _ _ ⟨rfl, rfl, rfl⟩
          refine ⟨(fun _ hI => Inv.pick 1 rfl hI), ?_⟩
          refine WH.yd (i := 15) (by kernel_rfl) (qo (qt (qb (qt (qt (qb (qt q0))))))) rfl (Yd.build SA56 rfl (cs := [_, _, _]) rfl) rfl ?_
          refine WH.two (i := 1) (j := 16) (by kernel_rfl) ?_ ?_
          · refine WHo.yd rfl (Yd.load1 Try.isAgg24 rfl (Rd.own (k := 2) rfl rfl)) rfl ?_
            refine WH.one (i := 16) (by kernel_rfl) (WHo.so rfl (SO.buildSlice Try.underlying24 Try.sizeOf56 Try.zeroValue56 rfl rfl rfl rfl (cs := [_, _, _]) rfl) rfl ?_)
            rintro _ _ _ ⟨b139, hb139, rfl, rfl, rfl⟩ -- NEW
            refine ⟨(fun _ hI => Inv.pick 2 rfl hI), ?_⟩
            refine WH.one (i := 17) (by kernel_rfl) (WHo.so rfl (SO.appendOw (o := o2) (len := k) (n := 1) (xs := ((shiftB p s k).flatMap bathC)) (size := 3) [] [_, _, _, _, _, _] _ rfl rfl Try.underlying24 Try.sizeOf56 Try.typeInfo56 Try.zeroValue56 rfl rfl rfl rfl ⟨rfl, .inr ⟨_, _, _, rfl, RdN.own (k := 0) (n := 3) rfl rfl⟩⟩ (oneB_spec rfl) ho2 (by rw [flat_len bathC_len, shift_len]) (by omega) (by show (2 * (_ + _) + 1000) * 24 ≤ 2 ^ 48; omega) (by omega)) rfl ?_)
            rintro _ _ _ ⟨u2, hu2, rfl, rfl, rfl⟩
            refine ⟨(fun _ hI => Inv.pick 2 rfl hI), ?_⟩
            refine WH.yd (i := 18) (by kernel_rfl) (qo (qt (qb (qt (qt (qb (qt q0))))))) rfl (Yd.fieldAddr FA27_1 rfl) rfl ?_
            refine WH.one (i := 19) (by kernel_rfl) (WHo.so rfl (SO.store 3 rfl Try.sizeOf24 rfl rfl rfl rfl (Nat.le_of_ble_eq_true rfl) (oneB_spec rfl)) rfl ?_)
            rintro _ _ _ ⟨rfl, rfl, rfl⟩
            refine ⟨(fun _ hI => Inv.pick 2 rfl hI), ?_⟩
            refine WH.nil (by kernel_rfl) ?_
            refine WP.thenC ?_
            refine WC.ofFr [(16, _), (1, _), (2, _), (4, _), (9, _), (10, _), (11, _), (12, _), (13, _), (14, _), (103, _), (104, _), (105, _)] ⟨rfl, rfl, rfl, rfl, rfl, rfl, rfl, rfl, rfl, rfl, rfl, rfl, rfl, trivial⟩ ?_
            refine WC.region ?_
            refine WL.yd (Yd.move rfl) rfl ?_
            refine WL.yd (Yd.move rfl) rfl ?_
            refine WL.part 143 rfl (fun g143 => ?_) (fun g143 => ?_)
            · try simp only [zq1, zq2, zq3, zq4, zq5, zq6, zq7, zq8] at g143
              have ef : fitTo p s (k + 1) = decide ((gt p.bathers k).place.hi + s ≤ 40) := by show (fitTo p s k && _) = _; rw [g143]; rfl
              refine WL.ydg rfl (Yd.fieldAddr FA56_1 rfl) rfl ?_
              refine WL.ydg rfl (Yd.fieldAddr FA23_1 rfl) rfl ?_
              refine WL.ydg rfl (Yd.load1 Try.isAgg3 rfl (Rd.own (k := 2) rfl rfl)) rfl ?_
              refine WL.ydg rfl (Yd.move rfl) rfl ?_
              refine WL.ydg rfl (Yd.add rfl rfl (wr64 ⟨by omega, by omega⟩)) rfl ?_
              refine WL.ydg rfl (Yd.leq rfl rfl) rfl ?_
              refine WL.yd (Yd.pickT rfl rfl) rfl ?_
              refine WL.yd (Yd.assign rfl) rfl ?_
              refine WL.nil ?_
              refine WP.blkNormal ?_
              refine WP.thenC ?_
              refine WC.ofFr [(14, _), (1, _), (2, _), (4, _), (9, _), (10, _), (11, _), (12, _), (13, _), (103, _), (104, _), (105, _)] ⟨rfl, rfl, rfl, rfl, rfl, rfl, rfl, rfl, rfl, rfl, rfl, rfl, trivial⟩ ?_
              refine WC.region ?_
              refine WL.yd (Yd.add rfl rfl (wr64 ⟨by omega, by omega⟩)) rfl ?_
              refine WL.yd (Yd.move rfl) rfl ?_
              refine WL.nil ?_
              refine WP.again (⟨k + 1, some u1, some u2⟩ : Nat × Option Ow × Option Ow) ⟨by simp only; omega, hu1, hu2⟩ (by simp only; omega) (fun aa ww h => ?_)
              show At _ [(1, .int .u8 (m1 : Int)), (2, .int .u8 (m2 : Int)), (4, pt b4), (9, pt b9), (10, it s), (11, .func (.func 46) #[] #[pt b9]), (12, pt b12), (13, pt b13), (14, .bool (fitTo p s (k + 1))), (103, .slice a1 p.bathers.length c1), (104, nt p.bathers.length), (105, nt (k + 1))] D1 ((b13, .cells (List.toArray [it (p.post.lo + s), it (p.post.hi + s), owV (some u2) (k + 1), .slice a2 p.claims.length c2]) 27 (0, 0)) :: (b12, .cells (List.toArray [it p.post.lo, it p.post.hi, owV (some u1) (k + 1), .slice none 0 0]) 27 (0, 0)) :: owH (some u1) 56 ((turnB p (k + 1)).flatMap bathC) (owH (some u2) 56 ((shiftB p s (k + 1)).flatMap bathC) [])) aa ww
              rw [ef, turnB_flat, shiftB_flat]
              exact at_less h ⟨rfl, rfl, rfl, rfl, rfl, rfl, rfl, rfl, rfl, rfl, rfl, rfl, trivial⟩ (fun _ h => .tail _ (.tail _ (.tail _ h))) (fun h => (List.nodup_cons.1 (List.nodup_cons.1 (List.nodup_cons.1 h).2).2).2)
            · try simp only [zq1, zq2, zq3, zq4, zq5, zq6, zq7, zq8] at g143
              have ef : fitTo p s (k + 1) = false := by show (fitTo p s k && _) = _; rw [g143]; rfl
              refine WL.skip rfl rfl ?_
              refine WL.skip rfl rfl ?_
              refine WL.skip rfl rfl ?_
              refine WL.skip rfl rfl ?_
              refine WL.skip rfl rfl ?_
              refine WL.skip rfl rfl ?_
              refine WL.yd (Yd.pickF rfl rfl) rfl ?_
              refine WL.yd (Yd.assign rfl) rfl ?_
              refine WL.nil ?_
              refine WP.blkNormal ?_
              refine WP.thenC ?_
              refine WC.ofFr [(14, _), (1, _), (2, _), (4, _), (9, _), (10, _), (11, _), (12, _), (13, _), (103, _), (104, _), (105, _)] ⟨rfl, rfl, rfl, rfl, rfl, rfl, rfl, rfl, rfl, rfl, rfl, rfl, trivial⟩ ?_
              refine WC.region ?_
              refine WL.yd (Yd.add rfl rfl (wr64 ⟨by omega, by omega⟩)) rfl ?_
              refine WL.yd (Yd.move rfl) rfl ?_
              refine WL.nil ?_
              refine WP.again (⟨k + 1, some u1, some u2⟩ : Nat × Option Ow × Option Ow) ⟨by simp only; omega, hu1, hu2⟩ (by simp only; omega) (fun aa ww h => ?_)
              show At _ [(1, .int .u8 (m1 : Int)), (2, .int .u8 (m2 : Int)), (4, pt b4), (9, pt b9), (10, it s), (11, .func (.func 46) #[] #[pt b9]), (12, pt b12), (13, pt b13), (14, .bool (fitTo p s (k + 1))), (103, .slice a1 p.bathers.length c1), (104, nt p.bathers.length), (105, nt (k + 1))] D1 ((b13, .cells (List.toArray [it (p.post.lo + s), it (p.post.hi + s), owV (some u2) (k + 1), .slice a2 p.claims.length c2]) 27 (0, 0)) :: (b12, .cells (List.toArray [it p.post.lo, it p.post.hi, owV (some u1) (k + 1), .slice none 0 0]) 27 (0, 0)) :: owH (some u1) 56 ((turnB p (k + 1)).flatMap bathC) (owH (some u2) 56 ((shiftB p s (k + 1)).flatMap bathC) [])) aa ww
              rw [ef, turnB_flat, shiftB_flat]
              exact at_less h ⟨rfl, rfl, rfl, rfl, rfl, rfl, rfl, rfl, rfl, rfl, rfl, rfl, trivial⟩ (fun _ h => .tail _ (.tail _ (.tail _ h))) (fun h => (List.nodup_cons.1 (List.nodup_cons.1 (List.nodup_cons.1 h).2).2).2)
          · refine WHo.so rfl (SO.buildSlice Try.underlying24 Try.sizeOf56 Try.zeroValue56 rfl rfl rfl rfl (cs := [_, _, _]) rfl) rfl ?_
            rintro _ _ _ ⟨b139, hb139, rfl, rfl, rfl⟩ -- NEW
            refine ⟨(fun _ hI => Inv.pick 2 rfl hI), ?_⟩
            refine WH.one (i := 1) (by kernel_rfl) (WHo.yd rfl (Yd.load1 Try.isAgg24 rfl (Rd.own (k := 3) rfl rfl)) rfl ?_)
            refine WH.one (i := 17) (by kernel_rfl) (WHo.so rfl (SO.appendOw (o := o2) (len := k) (n := 1) (xs := ((shiftB p s k).flatMap bathC)) (size := 3) [] [_, _, _, _, _, _] _ rfl rfl Try.underlying24 Try.sizeOf56 Try.typeInfo56 Try.zeroValue56 rfl rfl rfl rfl ⟨rfl, .inr ⟨_, _, _, rfl, RdN.own (k := 0) (n := 3) rfl rfl⟩⟩ (oneB_spec rfl) ho2 (by rw [flat_len bathC_len, shift_len]) (by omega) (by show (2 * (_ + _) + 1000) * 24 ≤ 2 ^ 48; omega) (by omega)) rfl ?_)
            rintro _ _ _ ⟨u2, hu2, rfl, rfl, rfl⟩
            refine ⟨(fun _ hI => Inv.pick 2 rfl hI), ?_⟩
            refine WH.yd (i := 18) (by kernel_rfl) (qo (qt (qb (qt (qt (qb (qt q0))))))) rfl (Yd.fieldAddr FA27_1 rfl) rfl ?_
            refine WH.one (i := 19) (by kernel_rfl) (WHo.so rfl (SO.store 3 rfl Try.sizeOf24 rfl rfl rfl rfl (Nat.le_of_ble_eq_true rfl) (oneB_spec rfl)) rfl ?_)
            rintro _ _ _ ⟨rfl, rfl, rfl⟩
            refine ⟨(fun _ hI => Inv.pick 2 rfl hI), ?_⟩
            refine WH.nil (by kernel_rfl) ?_
            refine WP.thenC ?_
            refine WC.ofFr [(16, _), (1, _), (2, _), (4, _), (9, _), (10, _), (11, _), (12, _), (13, _), (14, _), (103, _), (104, _), (105, _)] ⟨rfl, rfl, rfl, rfl, rfl, rfl, rfl, rfl, rfl, rfl, rfl, rfl, rfl, trivial⟩ ?_
            refine WC.region ?_
            refine WL.yd (Yd.move rfl) rfl ?_
            refine WL.yd (Yd.move rfl) rfl ?_
            refine WL.part 143 rfl (fun g143 => ?_) (fun g143 => ?_)
            · try simp only [zq1, zq2, zq3, zq4, zq5, zq6, zq7, zq8] at g143
              have ef : fitTo p s (k + 1) = decide ((gt p.bathers k).place.hi + s ≤ 40) := by show (fitTo p s k && _) = _; rw [g143]; rfl
              refine WL.ydg rfl (Yd.fieldAddr FA56_1 rfl) rfl ?_
              refine WL.ydg rfl (Yd.fieldAddr FA23_1 rfl) rfl ?_
              refine WL.ydg rfl (Yd.load1 Try.isAgg3 rfl (Rd.own (k := 2) rfl rfl)) rfl ?_
              refine WL.ydg rfl (Yd.move rfl) rfl ?_
              refine WL.ydg rfl (Yd.add rfl rfl (wr64 ⟨by omega, by omega⟩)) rfl ?_
              refine WL.ydg rfl (Yd.leq rfl rfl) rfl ?_
              refine WL.yd (Yd.pickT rfl rfl) rfl ?_
              refine WL.yd (Yd.assign rfl) rfl ?_
              refine WL.nil ?_
              refine WP.blkNormal ?_
              refine WP.thenC ?_
              refine WC.ofFr [(14, _), (1, _), (2, _), (4, _), (9, _), (10, _), (11, _), (12, _), (13, _), (103, _), (104, _), (105, _)] ⟨rfl, rfl, rfl, rfl, rfl, rfl, rfl, rfl, rfl, rfl, rfl, rfl, trivial⟩ ?_
              refine WC.region ?_
              refine WL.yd (Yd.add rfl rfl (wr64 ⟨by omega, by omega⟩)) rfl ?_
              refine WL.yd (Yd.move rfl) rfl ?_
              refine WL.nil ?_
              refine WP.again (⟨k + 1, some u1, some u2⟩ : Nat × Option Ow × Option Ow) ⟨by simp only; omega, hu1, hu2⟩ (by simp only; omega) (fun aa ww h => ?_)
              show At _ [(1, .int .u8 (m1 : Int)), (2, .int .u8 (m2 : Int)), (4, pt b4), (9, pt b9), (10, it s), (11, .func (.func 46) #[] #[pt b9]), (12, pt b12), (13, pt b13), (14, .bool (fitTo p s (k + 1))), (103, .slice a1 p.bathers.length c1), (104, nt p.bathers.length), (105, nt (k + 1))] D1 ((b13, .cells (List.toArray [it (p.post.lo + s), it (p.post.hi + s), owV (some u2) (k + 1), .slice a2 p.claims.length c2]) 27 (0, 0)) :: (b12, .cells (List.toArray [it p.post.lo, it p.post.hi, owV (some u1) (k + 1), .slice none 0 0]) 27 (0, 0)) :: owH (some u1) 56 ((turnB p (k + 1)).flatMap bathC) (owH (some u2) 56 ((shiftB p s (k + 1)).flatMap bathC) [])) aa ww
              rw [ef, turnB_flat, shiftB_flat]
              exact at_less h ⟨rfl, rfl, rfl, rfl, rfl, rfl, rfl, rfl, rfl, rfl, rfl, rfl, trivial⟩ (fun _ h => .tail _ (.tail _ (.tail _ h))) (fun h => (List.nodup_cons.1 (List.nodup_cons.1 (List.nodup_cons.1 h).2).2).2)
            · try simp only [zq1, zq2, zq3, zq4, zq5, zq6, zq7, zq8] at g143
              have ef : fitTo p s (k + 1) = false := by show (fitTo p s k && _) = _; rw [g143]; rfl
              refine WL.skip rfl rfl ?_
              refine WL.skip rfl rfl ?_
              refine WL.skip rfl rfl ?_
              refine WL.skip rfl rfl ?_
              refine WL.skip rfl rfl ?_
              refine WL.skip rfl rfl ?_
              refine WL.yd (Yd.pickF rfl rfl) rfl ?_
              refine WL.yd (Yd.assign rfl) rfl ?_
              refine WL.nil ?_
              refine WP.blkNormal ?_
              refine WP.thenC ?_
              refine WC.ofFr [(14, _), (1, _), (2, _), (4, _), (9, _), (10, _), (11, _), (12, _), (13, _), (103, _), (104, _), (105, _)] ⟨rfl, rfl, rfl, rfl, rfl, rfl, rfl, rfl, rfl, rfl, rfl, rfl, trivial⟩ ?_
              refine WC.region ?_
              refine WL.yd (Yd.add rfl rfl (wr64 ⟨by omega, by omega⟩)) rfl ?_
              refine WL.yd (Yd.move rfl) rfl ?_
              refine WL.nil ?_
              refine WP.again (⟨k + 1, some u1, some u2⟩ : Nat × Option Ow × Option Ow) ⟨by simp only; omega, hu1, hu2⟩ (by simp only; omega) (fun aa ww h => ?_)
              show At _ [(1, .int .u8 (m1 : Int)), (2, .int .u8 (m2 : Int)), (4, pt b4), (9, pt b9), (10, it s), (11, .func (.func 46) #[] #[pt b9]), (12, pt b12), (13, pt b13), (14, .bool (fitTo p s (k + 1))), (103, .slice a1 p.bathers.length c1), (104, nt p.bathers.length), (105, nt (k + 1))] D1 ((b13, .cells (List.toArray [it (p.post.lo + s), it (p.post.hi + s), owV (some u2) (k + 1), .slice a2 p.claims.length c2]) 27 (0, 0)) :: (b12, .cells (List.toArray [it p.post.lo, it p.post.hi, owV (some u1) (k + 1), .slice none 0 0]) 27 (0, 0)) :: owH (some u1) 56 ((turnB p (k + 1)).flatMap bathC) (owH (some u2) 56 ((shiftB p s (k + 1)).flatMap bathC) [])) aa ww
              rw [ef, turnB_flat, shiftB_flat]
              exact at_less h ⟨rfl, rfl, rfl, rfl, rfl, rfl, rfl, rfl, rfl, rfl, rfl, rfl, trivial⟩ (fun _ h => .tail _ (.tail _ (.tail _ h))) (fun h => (List.nodup_cons.1 (List.nodup_cons.1 (List.nodup_cons.1 h).2).2).2)
      · refine WHo.so rfl (SO.buildSlice Try.underlying24 Try.sizeOf56 Try.zeroValue56 rfl rfl rfl rfl (cs := [_, _, _]) rfl) rfl ?_
        rintro _ _ _ ⟨b120, hb120, rfl, rfl, rfl⟩ -- NEW
        refine ⟨(fun _ hI => Inv.nil hI), ?_⟩
        refine WH.one (i := 1) (by kernel_rfl) (WHo.yd rfl (Yd.load1 Try.isAgg24 rfl (Rd.own (k := 3) rfl rfl)) rfl ?_)
        refine WH.one (i := 11) (by kernel_rfl) (WHo.so rfl (SO.appendOw (o := o1) (len := k) (n := 1) (xs := ((turnB p k).flatMap bathC)) (size := 3) [] [_, _, _, _] _ rfl rfl Try.underlying24 Try.sizeOf56 Try.typeInfo56 Try.zeroValue56 rfl rfl rfl rfl ⟨rfl, .inr ⟨_, _, _, rfl, RdN.own (k := 0) (n := 3) rfl rfl⟩⟩ (oneB_spec rfl) ho1 (by rw [flat_len bathC_len, turn_lenB]) (by omega) (by show (2 * (_ + _) + 1000) * 24 ≤ 2 ^ 48; omega) (by omega)) rfl ?_)
        rintro _ _ _ ⟨u1, hu1, rfl, rfl, rfl⟩
        refine ⟨(fun _ hI => Inv.nil hI), ?_⟩
        refine WH.yd (i := 12) (by kernel_rfl) (qo (qt (qb (qt (qt (qb (qt q0))))))) rfl (Yd.fieldAddr FA27_1 rfl) rfl ?_
        refine WH.one (i := 13) (by kernel_rfl) (WHo.so rfl (SO.store 3 rfl Try.sizeOf24 rfl rfl rfl rfl (Nat.le_of_ble_eq_true rfl) (oneB_spec rfl)) rfl ?_)
        rintro _ _ _ ⟨rfl, rfl, rfl⟩
        refine ⟨(fun _ hI => Inv.nil hI), ?_⟩
        refine WH.nil (by kernel_rfl) ?_
        refine WP.thenC ?_
        refine WC.seq ?_
        refine WC.ofFr [(16, _), (1, _), (2, _), (4, _), (9, _), (10, _), (11, _), (12, _), (13, _), (14, _), (103, _), (104, _), (105, _)] ⟨rfl, rfl, rfl, rfl, rfl, rfl, rfl, rfl, rfl, rfl, rfl, rfl, rfl, trivial⟩ ?_
        refine WC.drawH [(b16, .cells (List.toArray [.bool (gt p.bathers k).lady, it (gt p.bathers k).place.lo, it (gt p.bathers k).place.hi]) 56 (0, 0))] (by kernel_rfl) (fun _ hI => Inv.pick 1 rfl hI) ?_
        refine WH.yd (i := 0) (by kernel_rfl) (qo (qt (qb (qt (qt (qb (qt q0))))))) rfl (Yd.fieldAddr FA27_1 rfl) rfl ?_
        refine WH.yd (i := 2) (by kernel_rfl) (qo (qt (qb (qt (qt (qb (qt q0))))))) rfl (Yd.fieldAddr FA56_0 rfl) rfl ?_
        refine WH.yd (i := 3) (by kernel_rfl) (qo (qt (qb (qt (qt (qb (qt q0))))))) rfl (Yd.load1 Try.isAgg4 rfl (by first | exact Rd.own (k := 0) rfl rfl | exact Rd.own (k := 1) rfl rfl | exact Rd.own (k := 2) rfl rfl | exact Rd.own (k := 3) rfl rfl | exact Rd.own (k := 4) rfl rfl | exact Rd.own (k := 5) rfl rfl | exact (Rd.imm hP rfl) | exact (Rd.imm h9 rfl))) rfl ?_
        refine WH.yd (i := 4) (by kernel_rfl) (qo (qt (qb (qt (qt (qb (qt q0))))))) rfl (Yd.fieldAddr FA56_1 rfl) rfl ?_
        refine WH.yd (i := 5) (by kernel_rfl) (qo (qt (qb (qt (qt (qb (qt q0))))))) rfl (Yd.fieldAddr FA23_0 rfl) rfl ?_
        refine WH.yd (i := 6) (by kernel_rfl) (qo (qt (qb (qt (qt (qb (qt q0))))))) rfl (Yd.load1 Try.isAgg3 rfl (by first | exact Rd.own (k := 0) rfl rfl | exact Rd.own (k := 1) rfl rfl | exact Rd.own (k := 2) rfl rfl | exact Rd.own (k := 3) rfl rfl | exact Rd.own (k := 4) rfl rfl | exact Rd.own (k := 5) rfl rfl | exact (Rd.imm hP rfl) | exact (Rd.imm h9 rfl))) rfl ?_
        refine WH.yd (i := 7) (by kernel_rfl) (qo (qt (qb (qt (qt (qb (qt q0))))))) rfl (Yd.move rfl) rfl ?_
        refine WH.yd (i := 8) (by kernel_rfl) (qo (qt (qb (qt (qt (qb (qt q0))))))) rfl (Yd.add rfl rfl (wr64 ⟨by omega, by omega⟩)) rfl ?_
        refine WH.yd (i := 9) (by kernel_rfl) (qo (qt (qb (qt (qt (qb (qt q0))))))) rfl (Yd.fieldAddr FA56_1 rfl) rfl ?_
        refine WH.yd (i := 10) (by kernel_rfl) (qo (qt (qb (qt (qt (qb (qt q0))))))) rfl (Yd.fieldAddr FA23_1 rfl) rfl ?_
        refine WH.yd (i := 11) (by kernel_rfl) (qo (qt (qb (qt (qt (qb (qt q0))))))) rfl (Yd.load1 Try.isAgg3 rfl (by first | exact Rd.own (k := 0) rfl rfl | exact Rd.own (k := 1) rfl rfl | exact Rd.own (k := 2) rfl rfl | exact Rd.own (k := 3) rfl rfl | exact Rd.own (k := 4) rfl rfl | exact Rd.own (k := 5) rfl rfl | exact (Rd.imm hP rfl) | exact (Rd.imm h9 rfl))) rfl ?_
        refine WH.yd (i := 12) (by kernel_rfl) (qo (qt (qb (qt (qt (qb (qt q0))))))) rfl (Yd.move rfl) rfl ?_
        refine WH.yd (i := 13) (by kernel_rfl) (qo (qt (qb (qt (qt (qb (qt q0))))))) rfl (Yd.add rfl rfl (wr64 ⟨by omega, by omega⟩)) rfl ?_
        refine WH.two (i := 1) (j := 14) (by kernel_rfl) ?_ ?_
        · refine WHo.yd rfl (Yd.load1 Try.isAgg24 rfl (Rd.own (k := 2) rfl rfl)) rfl ?_
          refine WH.one (i := 14) (by kernel_rfl) (WHo.so rfl (SO.callP Try.call32 rfl (fun w hI => lspan_g _ _ _)) rfl ?_)
          rintro _ _ _ ⟨rfl, rfl, rfl⟩
          refine ⟨(fun _ hI => Inv.pick 1 rfl hI), ?_⟩
          refine WH.yd (i := 15) (by kernel_rfl) (qo (qt (qb (qt (qt (qb (qt q0))))))) rfl (Yd.build SA56 rfl (cs := [_, _, _]) rfl) rfl ?_
          refine WH.one (i := 16) (by kernel_rfl) (WHo.so rfl (SO.buildSlice Try.underlying24 Try.sizeOf56 Try.zeroValue56 rfl rfl rfl rfl (cs := [_, _, _]) rfl) rfl ?_)
          rintro _ _ _ ⟨b139, hb139, rfl, rfl, rfl⟩ -- NEW
          refine ⟨(fun _ hI => Inv.pick 2 rfl hI), ?_⟩
          refine WH.one (i := 17) (by kernel_rfl) (WHo.so rfl (SO.appendOw (o := o2) (len := k) (n := 1) (xs := ((shiftB p s k).flatMap bathC)) (size := 3) [] [_, _, _, _, _, _] _ rfl rfl Try.underlying24 Try.sizeOf56 Try.typeInfo56 Try.zeroValue56 rfl rfl rfl rfl ⟨rfl, .inr ⟨_, _, _, rfl, RdN.own (k := 0) (n := 3) rfl rfl⟩⟩ (oneB_spec rfl) ho2 (by rw [flat_len bathC_len, shift_len]) (by omega) (by show (2 * (_ + _) + 1000) * 24 ≤ 2 ^ 48; omega) (by omega)) rfl ?_)
          rintro _ _ _ ⟨u2, hu2, rfl, rfl, rfl⟩
          refine ⟨(fun _ hI => Inv.pick 2 rfl hI), ?_⟩
          refine WH.yd (i := 18) (by kernel_rfl) (qo (qt (qb (qt (qt (qb (qt q0))))))) rfl (Yd.fieldAddr FA27_1 rfl) rfl ?_
          refine WH.one (i := 19) (by kernel_rfl) (WHo.so rfl (SO.store 3 rfl Try.sizeOf24 rfl rfl rfl rfl (Nat.le_of_ble_eq_true rfl) (oneB_spec rfl)) rfl ?_)
          rintro _ _ _ ⟨rfl, rfl, rfl⟩
          refine ⟨(fun _ hI => Inv.pick 2 rfl hI), ?_⟩
          refine WH.nil (by kernel_rfl) ?_
          refine WP.thenC ?_
          refine WC.ofFr [(16, _), (1, _), (2, _), (4, _), (9, _), (10, _), (11, _), (12, _), (13, _), (14, _), (103, _), (104, _), (105, _)] ⟨rfl, rfl, rfl, rfl, rfl, rfl, rfl, rfl, rfl, rfl, rfl, rfl, rfl, trivial⟩ ?_
          refine WC.region ?_
          refine WL.yd (Yd.move rfl) rfl ?_
          refine WL.yd (Yd.move rfl) rfl ?_
          refine WL.part 143 rfl (fun g143 => ?_) (fun g143 => ?_)
          · try simp only [zq1, zq2, zq3, zq4, zq5, zq6, zq7, zq8] at g143
            have ef : fitTo p s (k + 1) = decide ((gt p.bathers k).place.hi + s ≤ 40) := by show (fitTo p s k && _) = _; rw [g143]; rfl
            refine WL.ydg rfl (Yd.fieldAddr FA56_1 rfl) rfl ?_
            refine WL.ydg rfl (Yd.fieldAddr FA23_1 rfl) rfl ?_
            refine WL.ydg rfl (Yd.load1 Try.isAgg3 rfl (Rd.own (k := 2) rfl rfl)) rfl ?_
            refine WL.ydg rfl (Yd.move rfl) rfl ?_
            refine WL.ydg rfl (Yd.add rfl rfl (wr64 ⟨by omega, by omega⟩)) rfl ?_
            refine WL.ydg rfl (Yd.leq rfl rfl) rfl ?_
            refine WL.yd (Yd.pickT rfl rfl) rfl ?_
            refine WL.yd (Yd.assign rfl) rfl ?_
            refine WL.nil ?_
            refine WP.blkNormal ?_
            refine WP.thenC ?_
            refine WC.ofFr [(14, _), (1, _), (2, _), (4, _), (9, _), (10, _), (11, _), (12, _), (13, _), (103, _), (104, _), (105, _)] ⟨rfl, rfl, rfl, rfl, rfl, rfl, rfl, rfl, rfl, rfl, rfl, rfl, trivial⟩ ?_
            refine WC.region ?_
            refine WL.yd (Yd.add rfl rfl (wr64 ⟨by omega, by omega⟩)) rfl ?_
            refine WL.yd (Yd.move rfl) rfl ?_
            refine WL.nil ?_
            refine WP.again (⟨k + 1, some u1, some u2⟩ : Nat × Option Ow × Option Ow) ⟨by simp only; omega, hu1, hu2⟩ (by simp only; omega) (fun aa ww h => ?_)
            show At _ [(1, .int .u8 (m1 : Int)), (2, .int .u8 (m2 : Int)), (4, pt b4), (9, pt b9), (10, it s), (11, .func (.func 46) #[] #[pt b9]), (12, pt b12), (13, pt b13), (14, .bool (fitTo p s (k + 1))), (103, .slice a1 p.bathers.length c1), (104, nt p.bathers.length), (105, nt (k + 1))] D1 ((b13, .cells (List.toArray [it (p.post.lo + s), it (p.post.hi + s), owV (some u2) (k + 1), .slice a2 p.claims.length c2]) 27 (0, 0)) :: (b12, .cells (List.toArray [it p.post.lo, it p.post.hi, owV (some u1) (k + 1), .slice none 0 0]) 27 (0, 0)) :: owH (some u1) 56 ((turnB p (k + 1)).flatMap bathC) (owH (some u2) 56 ((shiftB p s (k + 1)).flatMap bathC) [])) aa ww
            rw [ef, turnB_flat, shiftB_flat]
            exact at_less h ⟨rfl, rfl, rfl, rfl, rfl, rfl, rfl, rfl, rfl, rfl, rfl, rfl, trivial⟩ (fun _ h => .tail _ (.tail _ (.tail _ h))) (fun h => (List.nodup_cons.1 (List.nodup_cons.1 (List.nodup_cons.1 h).2).2).2)
          · try simp only [zq1, zq2, zq3, zq4, zq5, zq6, zq7, zq8] at g143
            have ef : fitTo p s (k + 1) = false := by show (fitTo p s k && _) = _; rw [g143]; rfl
            refine WL.skip rfl rfl ?_
            refine WL.skip rfl rfl ?_
            refine WL.skip rfl rfl ?_
            refine WL.skip rfl rfl ?_
            refine WL.skip rfl rfl ?_
            refine WL.skip rfl rfl ?_
            refine WL.yd (Yd.pickF rfl rfl) rfl ?_
            refine WL.yd (Yd.assign rfl) rfl ?_
            refine WL.nil ?_
            refine WP.blkNormal ?_
            refine WP.thenC ?_
            refine WC.ofFr [(14, _), (1, _), (2, _), (4, _), (9, _), (10, _), (11, _), (12, _), (13, _), (103, _), (104, _), (105, _)] ⟨rfl, rfl, rfl, rfl, rfl, rfl, rfl, rfl, rfl, rfl, rfl, rfl, trivial⟩ ?_
            refine WC.region ?_
            refine WL.yd (Yd.add rfl rfl (wr64 ⟨by omega, by omega⟩)) rfl ?_
            refine WL.yd (Yd.move rfl) rfl ?_
            refine WL.nil ?_
            refine WP.again (⟨k + 1, some u1, some u2⟩ : Nat × Option Ow × Option Ow) ⟨by simp only; omega, hu1, hu2⟩ (by simp only; omega) (fun aa ww h => ?_)
            show At _ [(1, .int .u8 (m1 : Int)), (2, .int .u8 (m2 : Int)), (4, pt b4), (9, pt b9), (10, it s), (11, .func (.func 46) #[] #[pt b9]), (12, pt b12), (13, pt b13), (14, .bool (fitTo p s (k + 1))), (103, .slice a1 p.bathers.length c1), (104, nt p.bathers.length), (105, nt (k + 1))] D1 ((b13, .cells (List.toArray [it (p.post.lo + s), it (p.post.hi + s), owV (some u2) (k + 1), .slice a2 p.claims.length c2]) 27 (0, 0)) :: (b12, .cells (List.toArray [it p.post.lo, it p.post.hi, owV (some u1) (k + 1), .slice none 0 0]) 27 (0, 0)) :: owH (some u1) 56 ((turnB p (k + 1)).flatMap bathC) (owH (some u2) 56 ((shiftB p s (k + 1)).flatMap bathC) [])) aa ww
            rw [ef, turnB_flat, shiftB_flat]
            exact at_less h ⟨rfl, rfl, rfl, rfl, rfl, rfl, rfl, rfl, rfl, rfl, rfl, rfl, trivial⟩ (fun _ h => .tail _ (.tail _ (.tail _ h))) (fun h => (List.nodup_cons.1 (List.nodup_cons.1 (List.nodup_cons.1 h).2).2).2)
        · refine WHo.so rfl (SO.callP Try.call32 rfl (fun w hI => lspan_g _ _ _)) rfl ?_
          rintro _ _ _ ⟨rfl, rfl, rfl⟩
          refine ⟨(fun _ hI => Inv.pick 1 rfl hI), ?_⟩
          refine WH.yd (i := 15) (by kernel_rfl) (qo (qt (qb (qt (qt (qb (qt q0))))))) rfl (Yd.build SA56 rfl (cs := [_, _, _]) rfl) rfl ?_
          refine WH.two (i := 1) (j := 16) (by kernel_rfl) ?_ ?_
          · refine WHo.yd rfl (Yd.load1 Try.isAgg24 rfl (Rd.own (k := 2) rfl rfl)) rfl ?_
            refine WH.one (i := 16) (by kernel_rfl) (WHo.so rfl (SO.buildSlice Try.underlying24 Try.sizeOf56 Try.zeroValue56 rfl rfl rfl rfl (cs := [_, _, _]) rfl) rfl ?_)
            rintro _ _ _ ⟨b139, hb139, rfl, rfl, rfl⟩ -- NEW
            refine ⟨(fun _ hI => Inv.pick 2 rfl hI), ?_⟩
            refine WH.one (i := 17) (by kernel_rfl) (WHo.so rfl (SO.appendOw (o := o2) (len := k) (n := 1) (xs := ((shiftB p s k).flatMap bathC)) (size := 3) [] [_, _, _, _, _, _] _ rfl rfl Try.underlying24 Try.sizeOf56 Try.typeInfo56 Try.zeroValue56 rfl rfl rfl rfl ⟨rfl, .inr ⟨_, _, _, rfl, RdN.own (k := 0) (n := 3) rfl rfl⟩⟩ (oneB_spec rfl) ho2 (by rw [flat_len bathC_len, shift_len]) (by omega) (by show (2 * (_ + _) + 1000) * 24 ≤ 2 ^ 48; omega) (by omega)) rfl ?_)
            rintro _ _ _ ⟨u2, hu2, rfl, rfl, rfl⟩
            refine ⟨(fun _ hI => Inv.pick 2 rfl hI), ?_⟩
            refine WH.yd (i := 18) (by kernel_rfl) (qo (qt (qb (qt (qt (qb (qt q0))))))) rfl (Yd.fieldAddr FA27_1 rfl) rfl ?_
            refine WH.one (i := 19) (by kernel_rfl) (WHo.so rfl (SO.store 3 rfl Try.sizeOf24 rfl rfl rfl rfl (Nat.le_of_ble_eq_true rfl) (oneB_spec rfl)) rfl ?_)
            rintro _ _ _ ⟨rfl, rfl, rfl⟩
            refine ⟨(fun _ hI => Inv.pick 2 rfl hI), ?_⟩
            refine WH.nil (by kernel_rfl) ?_
            refine WP.thenC ?_
            refine WC.ofFr [(16, _), (1, _), (2, _), (4, _), (9, _), (10, _), (11, _), (12, _), (13, _), (14, _), (103, _), (104, _), (105, _)] ⟨rfl, rfl, rfl, rfl, rfl, rfl, rfl, rfl, rfl, rfl, rfl, rfl, rfl, trivial⟩ ?_
            refine WC.region ?_
            refine WL.yd (Yd.move rfl) rfl ?_
            refine WL.yd (Yd.move rfl) rfl ?_
            refine WL.part 143 rfl (fun g143 => ?_) (fun g143 => ?_)
            · try simp only [zq1, zq2, zq3, zq4, zq5, zq6, zq7, zq8] at g143
              have ef : fitTo p s (k + 1) = decide ((gt p.bathers k).place.hi + s ≤ 40) := by show (fitTo p s k && _) = _; rw [g143]; rfl
              refine WL.ydg rfl (Yd.fieldAddr FA56_1 rfl) rfl ?_
              refine WL.ydg rfl (Yd.fieldAddr FA23_1 rfl) rfl ?_
              refine WL.ydg rfl (Yd.load1 Try.isAgg3 rfl (Rd.own (k := 2) rfl rfl)) rfl ?_
              refine WL.ydg rfl (Yd.move rfl) rfl ?_
              refine WL.ydg rfl (Yd.add rfl rfl (wr64 ⟨by omega, by omega⟩)) rfl ?_
              refine WL.ydg rfl (Yd.leq rfl rfl) rfl ?_
              refine WL.yd (Yd.pickT rfl rfl) rfl ?_
              refine WL.yd (Yd.assign rfl) rfl ?_
              refine WL.nil ?_
              refine WP.blkNormal ?_
              refine WP.thenC ?_
              refine WC.ofFr [(14, _), (1, _), (2, _), (4, _), (9, _), (10, _), (11, _), (12, _), (13, _), (103, _), (104, _), (105, _)] ⟨rfl, rfl, rfl, rfl, rfl, rfl, rfl, rfl, rfl, rfl, rfl, rfl, trivial⟩ ?_
              refine WC.region ?_
              refine WL.yd (Yd.add rfl rfl (wr64 ⟨by omega, by omega⟩)) rfl ?_
              refine WL.yd (Yd.move rfl) rfl ?_
              refine WL.nil ?_
              refine WP.again (⟨k + 1, some u1, some u2⟩ : Nat × Option Ow × Option Ow) ⟨by simp only; omega, hu1, hu2⟩ (by simp only; omega) (fun aa ww h => ?_)
              show At _ [(1, .int .u8 (m1 : Int)), (2, .int .u8 (m2 : Int)), (4, pt b4), (9, pt b9), (10, it s), (11, .func (.func 46) #[] #[pt b9]), (12, pt b12), (13, pt b13), (14, .bool (fitTo p s (k + 1))), (103, .slice a1 p.bathers.length c1), (104, nt p.bathers.length), (105, nt (k + 1))] D1 ((b13, .cells (List.toArray [it (p.post.lo + s), it (p.post.hi + s), owV (some u2) (k + 1), .slice a2 p.claims.length c2]) 27 (0, 0)) :: (b12, .cells (List.toArray [it p.post.lo, it p.post.hi, owV (some u1) (k + 1), .slice none 0 0]) 27 (0, 0)) :: owH (some u1) 56 ((turnB p (k + 1)).flatMap bathC) (owH (some u2) 56 ((shiftB p s (k + 1)).flatMap bathC) [])) aa ww
              rw [ef, turnB_flat, shiftB_flat]
              exact at_less h ⟨rfl, rfl, rfl, rfl, rfl, rfl, rfl, rfl, rfl, rfl, rfl, rfl, trivial⟩ (fun _ h => .tail _ (.tail _ (.tail _ h))) (fun h => (List.nodup_cons.1 (List.nodup_cons.1 (List.nodup_cons.1 h).2).2).2)
            · try simp only [zq1, zq2, zq3, zq4, zq5, zq6, zq7, zq8] at g143
              have ef : fitTo p s (k + 1) = false := by show (fitTo p s k && _) = _; rw [g143]; rfl
              refine WL.skip rfl rfl ?_
              refine WL.skip rfl rfl ?_
              refine WL.skip rfl rfl ?_
              refine WL.skip rfl rfl ?_
              refine WL.skip rfl rfl ?_
              refine WL.skip rfl rfl ?_
              refine WL.yd (Yd.pickF rfl rfl) rfl ?_
              refine WL.yd (Yd.assign rfl) rfl ?_
              refine WL.nil ?_
              refine WP.blkNormal ?_
              refine WP.thenC ?_
              refine WC.ofFr [(14, _), (1, _), (2, _), (4, _), (9, _), (10, _), (11, _), (12, _), (13, _), (103, _), (104, _), (105, _)] ⟨rfl, rfl, rfl, rfl, rfl, rfl, rfl, rfl, rfl, rfl, rfl, rfl, trivial⟩ ?_
              refine WC.region ?_
              refine WL.yd (Yd.add rfl rfl (wr64 ⟨by omega, by omega⟩)) rfl ?_
              refine WL.yd (Yd.move rfl) rfl ?_
              refine WL.nil ?_
              refine WP.again (⟨k + 1, some u1, some u2⟩ : Nat × Option Ow × Option Ow) ⟨by simp only; omega, hu1, hu2⟩ (by simp only; omega) (fun aa ww h => ?_)
              show At _ [(1, .int .u8 (m1 : Int)), (2, .int .u8 (m2 : Int)), (4, pt b4), (9, pt b9), (10, it s), (11, .func (.func 46) #[] #[pt b9]), (12, pt b12), (13, pt b13), (14, .bool (fitTo p s (k + 1))), (103, .slice a1 p.bathers.length c1), (104, nt p.bathers.length), (105, nt (k + 1))] D1 ((b13, .cells (List.toArray [it (p.post.lo + s), it (p.post.hi + s), owV (some u2) (k + 1), .slice a2 p.claims.length c2]) 27 (0, 0)) :: (b12, .cells (List.toArray [it p.post.lo, it p.post.hi, owV (some u1) (k + 1), .slice none 0 0]) 27 (0, 0)) :: owH (some u1) 56 ((turnB p (k + 1)).flatMap bathC) (owH (some u2) 56 ((shiftB p s (k + 1)).flatMap bathC) [])) aa ww
              rw [ef, turnB_flat, shiftB_flat]
              exact at_less h ⟨rfl, rfl, rfl, rfl, rfl, rfl, rfl, rfl, rfl, rfl, rfl, rfl, trivial⟩ (fun _ h => .tail _ (.tail _ (.tail _ h))) (fun h => (List.nodup_cons.1 (List.nodup_cons.1 (List.nodup_cons.1 h).2).2).2)
          · refine WHo.so rfl (SO.buildSlice Try.underlying24 Try.sizeOf56 Try.zeroValue56 rfl rfl rfl rfl (cs := [_, _, _]) rfl) rfl ?_
            rintro _ _ _ ⟨b139, hb139, rfl, rfl, rfl⟩ -- NEW
            refine ⟨(fun _ hI => Inv.pick 2 rfl hI), ?_⟩
            refine WH.one (i := 1) (by kernel_rfl) (WHo.yd rfl (Yd.load1 Try.isAgg24 rfl (Rd.own (k := 3) rfl rfl)) rfl ?_)
            refine WH.one (i := 17) (by kernel_rfl) (WHo.so rfl (SO.appendOw (o := o2) (len := k) (n := 1) (xs := ((shiftB p s k).flatMap bathC)) (size := 3) [] [_, _, _, _, _, _] _ rfl rfl Try.underlying24 Try.sizeOf56 Try.typeInfo56 Try.zeroValue56 rfl rfl rfl rfl ⟨rfl, .inr ⟨_, _, _, rfl, RdN.own (k := 0) (n := 3) rfl rfl⟩⟩ (oneB_spec rfl) ho2 (by rw [flat_len bathC_len, shift_len]) (by omega) (by show (2 * (_ + _) + 1000) * 24 ≤ 2 ^ 48; omega) (by omega)) rfl ?_)
            rintro _ _ _ ⟨u2, hu2, rfl, rfl, rfl⟩
            refine ⟨(fun _ hI => Inv.pick 2 rfl hI), ?_⟩
            refine WH.yd (i := 18) (by kernel_rfl) (qo (qt (qb (qt (qt (qb (qt q0))))))) rfl (Yd.fieldAddr FA27_1 rfl) rfl ?_
            refine WH.one (i := 19) (by kernel_rfl) (WHo.so rfl (SO.store 3 rfl Try.sizeOf24 rfl rfl rfl rfl (Nat.le_of_ble_eq_true rfl) (oneB_spec rfl)) rfl ?_)
            rintro _ _ _ ⟨rfl, rfl, rfl⟩
            refine ⟨(fun _ hI => Inv.pick 2 rfl hI), ?_⟩
            refine WH.nil (by kernel_rfl) ?_
            refine WP.thenC ?_
            refine WC.ofFr [(16, _), (1, _), (2, _), (4, _), (9, _), (10, _), (11, _), (12, _), (13, _), (14, _), (103, _), (104, _), (105, _)] ⟨rfl, rfl, rfl, rfl, rfl, rfl, rfl, rfl, rfl, rfl, rfl, rfl, rfl, trivial⟩ ?_
            refine WC.region ?_
            refine WL.yd (Yd.move rfl) rfl ?_
            refine WL.yd (Yd.move rfl) rfl ?_
            refine WL.part 143 rfl (fun g143 => ?_) (fun g143 => ?_)
            · try simp only [zq1, zq2, zq3, zq4, zq5, zq6, zq7, zq8] at g143
              have ef : fitTo p s (k + 1) = decide ((gt p.bathers k).place.hi + s ≤ 40) := by show (fitTo p s k && _) = _; rw [g143]; rfl
              refine WL.ydg rfl (Yd.fieldAddr FA56_1 rfl) rfl ?_
              refine WL.ydg rfl (Yd.fieldAddr FA23_1 rfl) rfl ?_
              refine WL.ydg rfl (Yd.load1 Try.isAgg3 rfl (Rd.own (k := 2) rfl rfl)) rfl ?_
              refine WL.ydg rfl (Yd.move rfl) rfl ?_
              refine WL.ydg rfl (Yd.add rfl rfl (wr64 ⟨by omega, by omega⟩)) rfl ?_
              refine WL.ydg rfl (Yd.leq rfl rfl) rfl ?_
              refine WL.yd (Yd.pickT rfl rfl) rfl ?_
              refine WL.yd (Yd.assign rfl) rfl ?_
              refine WL.nil ?_
              refine WP.blkNormal ?_
              refine WP.thenC ?_
              refine WC.ofFr [(14, _), (1, _), (2, _), (4, _), (9, _), (10, _), (11, _), (12, _), (13, _), (103, _), (104, _), (105, _)] ⟨rfl, rfl, rfl, rfl, rfl, rfl, rfl, rfl, rfl, rfl, rfl, rfl, trivial⟩ ?_
              refine WC.region ?_
              refine WL.yd (Yd.add rfl rfl (wr64 ⟨by omega, by omega⟩)) rfl ?_
              refine WL.yd (Yd.move rfl) rfl ?_
              refine WL.nil ?_
              refine WP.again (⟨k + 1, some u1, some u2⟩ : Nat × Option Ow × Option Ow) ⟨by simp only; omega, hu1, hu2⟩ (by simp only; omega) (fun aa ww h => ?_)
              show At _ [(1, .int .u8 (m1 : Int)), (2, .int .u8 (m2 : Int)), (4, pt b4), (9, pt b9), (10, it s), (11, .func (.func 46) #[] #[pt b9]), (12, pt b12), (13, pt b13), (14, .bool (fitTo p s (k + 1))), (103, .slice a1 p.bathers.length c1), (104, nt p.bathers.length), (105, nt (k + 1))] D1 ((b13, .cells (List.toArray [it (p.post.lo + s), it (p.post.hi + s), owV (some u2) (k + 1), .slice a2 p.claims.length c2]) 27 (0, 0)) :: (b12, .cells (List.toArray [it p.post.lo, it p.post.hi, owV (some u1) (k + 1), .slice none 0 0]) 27 (0, 0)) :: owH (some u1) 56 ((turnB p (k + 1)).flatMap bathC) (owH (some u2) 56 ((shiftB p s (k + 1)).flatMap bathC) [])) aa ww
              rw [ef, turnB_flat, shiftB_flat]
              exact at_less h ⟨rfl, rfl, rfl, rfl, rfl, rfl, rfl, rfl, rfl, rfl, rfl, rfl, trivial⟩ (fun _ h => .tail _ (.tail _ (.tail _ h))) (fun h => (List.nodup_cons.1 (List.nodup_cons.1 (List.nodup_cons.1 h).2).2).2)
            · try simp only [zq1, zq2, zq3, zq4, zq5, zq6, zq7, zq8] at g143
              have ef : fitTo p s (k + 1) = false := by show (fitTo p s k && _) = _; rw [g143]; rfl
              refine WL.skip rfl rfl ?_
              refine WL.skip rfl rfl ?_
              refine WL.skip rfl rfl ?_
              refine WL.skip rfl rfl ?_
              refine WL.skip rfl rfl ?_
              refine WL.skip rfl rfl ?_
              refine WL.yd (Yd.pickF rfl rfl) rfl ?_
              refine WL.yd (Yd.assign rfl) rfl ?_
              refine WL.nil ?_
              refine WP.blkNormal ?_
              refine WP.thenC ?_
              refine WC.ofFr [(14, _), (1, _), (2, _), (4, _), (9, _), (10, _), (11, _), (12, _), (13, _), (103, _), (104, _), (105, _)] ⟨rfl, rfl, rfl, rfl, rfl, rfl, rfl, rfl, rfl, rfl, rfl, rfl, trivial⟩ ?_
              refine WC.region ?_
              refine WL.yd (Yd.add rfl rfl (wr64 ⟨by omega, by omega⟩)) rfl ?_
              refine WL.yd (Yd.move rfl) rfl ?_
              refine WL.nil ?_
              refine WP.again (⟨k + 1, some u1, some u2⟩ : Nat × Option Ow × Option Ow) ⟨by simp only; omega, hu1, hu2⟩ (by simp only; omega) (fun aa ww h => ?_)
              show At _ [(1, .int .u8 (m1 : Int)), (2, .int .u8 (m2 : Int)), (4, pt b4), (9, pt b9), (10, it s), (11, .func (.func 46) #[] #[pt b9]), (12, pt b12), (13, pt b13), (14, .bool (fitTo p s (k + 1))), (103, .slice a1 p.bathers.length c1), (104, nt p.bathers.length), (105, nt (k + 1))] D1 ((b13, .cells (List.toArray [it (p.post.lo + s), it (p.post.hi + s), owV (some u2) (k + 1), .slice a2 p.claims.length c2]) 27 (0, 0)) :: (b12, .cells (List.toArray [it p.post.lo, it p.post.hi, owV (some u1) (k + 1), .slice none 0 0]) 27 (0, 0)) :: owH (some u1) 56 ((turnB p (k + 1)).flatMap bathC) (owH (some u2) 56 ((shiftB p s (k + 1)).flatMap bathC) [])) aa ww
              rw [ef, turnB_flat, shiftB_flat]
              exact at_less h ⟨rfl, rfl, rfl, rfl, rfl, rfl, rfl, rfl, rfl, rfl, rfl, rfl, trivial⟩ (fun _ h => .tail _ (.tail _ (.tail _ h))) (fun h => (List.nodup_cons.1 (List.nodup_cons.1 (List.nodup_cons.1 h).2).2).2)
    · try simp only [zq1, zq2, zq3, zq4, zq5, zq6, zq7, zq8] at c106
      refine WC.exit ?_
      refine WP.thenExit ?_
      refine WP.thenExit ?_
      refine WP.blkHit ?_
      refine WP.thenC ?_
      refine WC.seq ?_
      refine WC.seq ?_
      obtain rfl : k = p.bathers.length := by omega
      rw [owV_eqP ho1, owV_eqP ho2]
      refine WC.freezeOw (f := bathC) bathC_len [_, _] _ o1 56 (turnB p p.bathers.length) rfl (by rw [turn_lenB]; exact ho1) rfl (fun D2 hX2 hS1 => ?_)
      refine WC.freezeOw (f := bathC) bathC_len [_, _] [] o2 56 (shiftB p s p.bathers.length) rfl (by rw [shift_len]; exact ho2) rfl (fun D3 hX3 hS2 => ?_)
      rw [turn_lenB] at hS1
      rw [shift_len] at hS2
      replace hS1 := hS1.ext hX3
      replace hR := (hR.ext hX2).ext hX3
      replace hP := hX3.old _ _ (hX2.old _ _ hP)
      replace h9 := hX3.old _ _ (hX2.old _ _ h9)
      refine (?_ : WC Try.prog _ _ D3 [_, _] _ _)
      refine WC.ofFr [(1, _), (2, _), (4, _), (9, _), (10, _), (11, _), (12, _), (13, _), (14, _)] ⟨rfl, rfl, rfl, rfl, rfl, rfl, rfl, rfl, rfl, trivial⟩ ?_
      refine WC.region ?_
      refine WL.yd (Yd.fieldAddr FA27_2 rfl) rfl ?_
      refine WL.yd (Yd.load1 Try.isAgg25 rfl (by first | exact (Rd.imm hP rfl) | exact (Rd.imm h9 rfl))) rfl ?_
      refine WL.yd (Yd.lenS rfl Try.underlying25 rfl) rfl ?_
      refine WL.yd (Yd.move rfl) rfl ?_
      refine WL.nil ?_
      refine WP.thenC ?_
      refine WC.block ?_
      refine WC.loop (fun y : Nat × Option Ow => [(1, .int .u8 (m1 : Int)), (2, .int .u8 (m2 : Int)), (4, pt b4), (9, pt b9), (10, it s), (11, .func (.func 46) #[] #[pt b9]), (12, pt b12), (13, pt b13), (14, .bool (fitTo p s p.bathers.length)), (154, nt p.claims.length), (155, nt y.1)]) (fun y => (b13, .cells (List.toArray [it (p.post.lo + s), it (p.post.hi + s), .slice (owAt o2) p.bathers.length (owCp o2 p.bathers.length), .slice a2 p.claims.length c2]) 27 (0, 0)) :: (b12, .cells (List.toArray [it p.post.lo, it p.post.hi, .slice (owAt o1) p.bathers.length (owCp o1 p.bathers.length), owV y.2 y.1]) 27 (0, 0)) :: owH y.2 47 ((turnCs p y.1).flatMap claimC) []) (fun _ => D3) (fun y => y.1 ≤ p.claims.length ∧ owP w y.2 y.1 3) (fun y => p.claims.length - y.1) (0, none) ⟨by omega, rfl⟩ (fun a w h => at_fr h ⟨rfl, rfl, rfl, rfl, rfl, rfl, rfl, rfl, rfl, rfl, rfl, trivial⟩) ?_
      rintro ⟨j, o3⟩ ⟨hj, ho3⟩
      dsimp only at hj ho3
      refine WC.seq ?_
      refine WC.ofFr [(1, _), (2, _), (4, _), (9, _), (10, _), (11, _), (12, _), (13, _), (14, _), (154, _), (155, _)] ⟨rfl, rfl, rfl, rfl, rfl, rfl, rfl, rfl, rfl, rfl, rfl, trivial⟩ ?_
      refine WC.region ?_
      refine WL.yd (Yd.lss rfl rfl) rfl ?_
      refine WL.nil ?_
      refine WP.thenC ?_
      refine WC.seq ?_
      refine WC.cond rfl (fun c156 => ?_) (fun c156 => ?_)
      · try simp only [zq1, zq2, zq3, zq4, zq5, zq6, zq7, zq8] at c156
        have hcj := (post_num hv).2.2.2.2 (p.claims.length - 1 - j) (by omega)
        refine WC.skip ?_
        refine WP.thenC ?_
        refine WC.seq ?_
        refine WC.block ?_
        refine WC.seq ?_
        refine WC.ofFr [(1, _), (2, _), (4, _), (9, _), (10, _), (11, _), (12, _), (13, _), (14, _), (154, _), (155, _)] ⟨rfl, rfl, rfl, rfl, rfl, rfl, rfl, rfl, rfl, rfl, rfl, trivial⟩ ?_
        refine WC.region ?_
        refine WL.yd (Yd.move rfl) rfl ?_
        refine WL.yd (Yd.assign rfl) rfl ?_
        refine WL.nil ?_
        refine WP.thenC ?_
        refine WC.seq ?_
        refine WC.ofFr [(17, _), (1, _), (2, _), (4, _), (9, _), (10, _), (11, _), (12, _), (13, _), (14, _), (154, _), (155, _)] ⟨rfl, rfl, rfl, rfl, rfl, rfl, rfl, rfl, rfl, rfl, rfl, rfl, trivial⟩ ?_
        refine WC.region ?_
        refine WL.yd (Yd.fieldAddr FA27_2 rfl) rfl ?_
        refine WL.yd (Yd.load1 Try.isAgg25 rfl (by first | exact (Rd.imm hP rfl) | exact (Rd.imm h9 rfl))) rfl ?_
        refine WL.yd (Yd.fieldAddr FA27_2 rfl) rfl ?_
        refine WL.yd (Yd.load1 Try.isAgg25 rfl (by first | exact (Rd.imm hP rfl) | exact (Rd.imm h9 rfl))) rfl ?_
        refine WL.yd (Yd.lenS rfl Try.underlying25 rfl) rfl ?_
        refine WL.yd (Yd.subN (j := 1) rfl rfl (by omega) (by omega)) rfl ?_
        refine WL.yd (Yd.move rfl) rfl ?_
        refine WL.yd (Yd.subN rfl rfl (by omega) (by omega)) rfl ?_
        refine WL.yd (Yd.indexS Try.underlying25 Try.sizeOf47 rfl rfl (by omega) (by omega) (by first | exact hR.claim.addr (p.claims.length - 1 - j) (by omega))) rfl ?_
        refine WL.yd (Yd.loadN Try.isAgg47 Try.sizeOf47 rfl (vs := [_, _, _]) rfl ((hR.claim.at (p.claims.length - 1 - j) (by omega)).rdn 0 3 rfl)) rfl ?_
        refine WL.so (SO.alloc Try.zeroValue47 rfl) rfl ?_
        rintro _ _ _ ⟨b18, hb18, rfl, rfl, rfl⟩ -- NEW
        refine WL.so (SO.store 0 rfl Try.sizeOf47 rfl rfl rfl rfl (Nat.le_of_ble_eq_true rfl) (oneB_spec rfl)) rfl ?_
        rintro _ _ _ ⟨rfl, rfl, rfl⟩
        refine WL.nil ?_
        refine WP.thenC ?_
        refine WC.ofFr [(18, _), (1, _), (2, _), (4, _), (9, _), (10, _), (11, _), (12, _), (13, _), (14, _), (154, _), (155, _)] ⟨rfl, rfl, rfl, rfl, rfl, rfl, rfl, rfl, rfl, rfl, rfl, rfl, trivial⟩ ?_
        refine WC.drawH [(b18, .cells (List.toArray [it (gt p.claims (p.claims.length - 1 - j)).a, it (gt p.claims (p.claims.length - 1 - j)).b, .bool (gt p.claims (p.claims.length - 1 - j)).not]) 47 (0, 0))] (by kernel_rfl) (fun _ hI => Inv.pick 0 rfl hI) ?_
        refine WH.yd (i := 0) (by kernel_rfl) (qo (qb (qt (qt (qb (qt q0)))))) rfl (Yd.fieldAddr FA27_2 rfl) rfl ?_
        refine WH.yd (i := 2) (by kernel_rfl) (qo (qb (qt (qt (qb (qt q0)))))) rfl (Yd.move rfl) rfl ?_
        refine WH.yd (i := 3) (by kernel_rfl) (qo (qb (qt (qt (qb (qt q0)))))) rfl (Yd.fieldAddr FA47_0 rfl) rfl ?_
        refine WH.yd (i := 4) (by kernel_rfl) (qo (qb (qt (qt (qb (qt q0)))))) rfl (Yd.load1 Try.isAgg3 rfl (by first | exact Rd.own (k := 0) rfl rfl | exact Rd.own (k := 1) rfl rfl | exact Rd.own (k := 2) rfl rfl | exact Rd.own (k := 3) rfl rfl | exact (Rd.imm hP rfl) | exact (Rd.imm h9 rfl))) rfl ?_
        refine WH.yd (i := 6) (by kernel_rfl) (qo (qb (qt (qt (qb (qt q0)))))) rfl (Yd.move rfl) rfl ?_
        refine WH.yd (i := 7) (by kernel_rfl) (qo (qb (qt (qt (qb (qt q0)))))) rfl (Yd.fieldAddr FA47_1 rfl) rfl ?_
        refine WH.yd (i := 8) (by kernel_rfl) (qo (qb (qt (qt (qb (qt q0)))))) rfl (Yd.load1 Try.isAgg3 rfl (by first | exact Rd.own (k := 0) rfl rfl | exact Rd.own (k := 1) rfl rfl | exact Rd.own (k := 2) rfl rfl | exact Rd.own (k := 3) rfl rfl | exact (Rd.imm hP rfl) | exact (Rd.imm h9 rfl))) rfl ?_
        refine WH.yd (i := 10) (by kernel_rfl) (qo (qb (qt (qt (qb (qt q0)))))) rfl (Yd.fieldAddr FA47_2 rfl) rfl ?_
        refine WH.yd (i := 11) (by kernel_rfl) (qo (qb (qt (qt (qb (qt q0)))))) rfl (Yd.load1 Try.isAgg4 rfl (by first | exact Rd.own (k := 0) rfl rfl | exact Rd.own (k := 1) rfl rfl | exact Rd.own (k := 2) rfl rfl | exact Rd.own (k := 3) rfl rfl | exact (Rd.imm hP rfl) | exact (Rd.imm h9 rfl))) rfl ?_
        refine WH.two (i := 1) (j := 5) (by kernel_rfl) ?_ ?_
        · refine WHo.yd rfl (Yd.load1 Try.isAgg25 rfl (Rd.own (k := 2) rfl rfl)) rfl ?_
          refine WH.one (i := 5) (by kernel_rfl) (WHo.so rfl (SO.call (Enters.val Try.call46 rfl rfl) (fun w hI => back46_g p.bathers.length (gt p.claims (p.claims.length - 1 - j)).a b9 _ _ h9 hI.imm (by omega) (by omega))) rfl ?_)
          rintro _ _ _ ⟨rfl, rfl, rfl⟩
          refine ⟨(fun _ hI => Inv.pick 0 rfl hI), ?_⟩
          refine WH.one (i := 9) (by kernel_rfl) (WHo.so rfl (SO.call (Enters.val Try.call46 rfl rfl) (fun w hI => back46_g p.bathers.length (gt p.claims (p.claims.length - 1 - j)).b b9 _ _ h9 hI.imm (by omega) (by omega))) rfl ?_)
          rintro _ _ _ ⟨rfl, rfl, rfl⟩
          refine ⟨(fun _ hI => Inv.pick 0 rfl hI), ?_⟩
          refine WH.yd (i := 12) (by kernel_rfl) (qo (qb (qt (qt (qb (qt q0)))))) rfl (Yd.build SA47 rfl (cs := [_, _, _]) rfl) rfl ?_
          refine WH.one (i := 13) (by kernel_rfl) (WHo.so rfl (SO.buildSlice Try.underlying25 Try.sizeOf47 Try.zeroValue47 rfl rfl rfl rfl (cs := [_, _, _]) rfl) rfl ?_)
          rintro _ _ _ ⟨b181, hb181, rfl, rfl, rfl⟩ -- NEW
          refine ⟨(fun _ hI => Inv.pick 1 rfl hI), ?_⟩
          refine WH.one (i := 14) (by kernel_rfl) (WHo.so rfl (SO.appendOw (o := o3) (len := j) (n := 1) (xs := ((turnCs p j).flatMap claimC)) (size := 3) [] [_, _, _, _] _ rfl rfl Try.underlying25 Try.sizeOf47 Try.typeInfo47 Try.zeroValue47 rfl rfl rfl rfl ⟨rfl, .inr ⟨_, _, _, rfl, RdN.own (k := 0) (n := 3) rfl rfl⟩⟩ (oneB_spec rfl) ho3 (by rw [flat_len claimC_len, turn_lenC]) (by omega) (by show (2 * (_ + _) + 1000) * 24 ≤ 2 ^ 48; omega) (by omega)) rfl ?_)
          rintro _ _ _ ⟨u3, hu3, rfl, rfl, rfl⟩
          refine ⟨(fun _ hI => Inv.pick 1 rfl hI), ?_⟩
          refine WH.yd (i := 15) (by kernel_rfl) (qo (qb (qt (qt (qb (qt q0)))))) rfl (Yd.fieldAddr FA27_2 rfl) rfl ?_
          refine WH.one (i := 16) (by kernel_rfl) (WHo.so rfl (SO.store 3 rfl Try.sizeOf25 rfl rfl rfl rfl (Nat.le_of_ble_eq_true rfl) (oneB_spec rfl)) rfl ?_)
          rintro _ _ _ ⟨rfl, rfl, rfl⟩
          refine ⟨(fun _ hI => Inv.pick 1 rfl hI), ?_⟩
          refine WH.nil (by kernel_rfl) ?_
          refine WP.blkNormal ?_
          refine WP.thenC ?_
          refine WC.ofFr [(1, _), (2, _), (4, _), (9, _), (10, _), (11, _), (12, _), (13, _), (14, _), (154, _), (155, _)] ⟨rfl, rfl, rfl, rfl, rfl, rfl, rfl, rfl, rfl, rfl, rfl, trivial⟩ ?_
          refine WC.region ?_
          refine WL.yd (Yd.add rfl rfl (wr64 ⟨by omega, by omega⟩)) rfl ?_
          refine WL.yd (Yd.move rfl) rfl ?_
          refine WL.nil ?_
          refine WP.again (⟨j + 1, some u3⟩ : Nat × Option Ow) ⟨by simp only; omega, hu3⟩ (by simp only; omega) (fun aa ww h => ?_)
          show At _ [(1, .int .u8 (m1 : Int)), (2, .int .u8 (m2 : Int)), (4, pt b4), (9, pt b9), (10, it s), (11, .func (.func 46) #[] #[pt b9]), (12, pt b12), (13, pt b13), (14, .bool (fitTo p s p.bathers.length)), (154, nt p.claims.length), (155, nt (j + 1))] D3 ((b13, .cells (List.toArray [it (p.post.lo + s), it (p.post.hi + s), .slice (owAt o2) p.bathers.length (owCp o2 p.bathers.length), .slice a2 p.claims.length c2]) 27 (0, 0)) :: (b12, .cells (List.toArray [it p.post.lo, it p.post.hi, .slice (owAt o1) p.bathers.length (owCp o1 p.bathers.length), owV (some u3) (j + 1)]) 27 (0, 0)) :: owH (some u3) 47 ((turnCs p (j + 1)).flatMap claimC) []) aa ww
          rw [turnCs_flat]
          exact at_less h ⟨rfl, rfl, rfl, rfl, rfl, rfl, rfl, rfl, rfl, rfl, rfl, trivial⟩ (fun _ h => .tail _ (.tail _ h)) (fun h => (List.nodup_cons.1 (List.nodup_cons.1 h).2).2)
        · refine WHo.so rfl (SO.call (Enters.val Try.call46 rfl rfl) (fun w hI => back46_g p.bathers.length (gt p.claims (p.claims.length - 1 - j)).a b9 _ _ h9 hI.imm (by omega) (by omega))) rfl ?_
          rintro _ _ _ ⟨rfl, rfl, rfl⟩
          refine ⟨(fun _ hI => Inv.pick 0 rfl hI), ?_⟩
          refine WH.two (i := 1) (j := 9) (by kernel_rfl) ?_ ?_
          · refine WHo.yd rfl (Yd.load1 Try.isAgg25 rfl (Rd.own (k := 2) rfl rfl)) rfl ?_
            refine WH.one (i := 9) (by kernel_rfl) (WHo.so rfl (SO.call (Enters.val Try.call46 rfl rfl) (fun w hI => back46_g p.bathers.length (gt p.claims (p.claims.length - 1 - j)).b b9 _ _ h9 hI.imm (by omega) (by omega))) rfl ?_)
            rintro _ _ _ ⟨rfl, rfl, rfl⟩
            refine ⟨(fun _ hI => Inv.pick 0 rfl hI), ?_⟩
            refine WH.yd (i := 12) (by kernel_rfl) (qo (qb (qt (qt (qb (qt q0)))))) rfl (Yd.build SA47 rfl (cs := [_, _, _]) rfl) rfl ?_
            refine WH.one (i := 13) (by kernel_rfl) (WHo.so rfl (SO.buildSlice Try.underlying25 Try.sizeOf47 Try.zeroValue47 rfl rfl rfl rfl (cs := [_, _, _]) rfl) rfl ?_)
            rintro _ _ _ ⟨b181, hb181, rfl, rfl, rfl⟩ -- NEW
            refine ⟨(fun _ hI => Inv.pick 1 rfl hI), ?_⟩
            refine WH.one (i := 14) (by kernel_rfl) (WHo.so rfl (SO.appendOw (o := o3) (len := j) (n := 1) (xs := ((turnCs p j).flatMap claimC)) (size := 3) [] [_, _, _, _] _ rfl rfl Try.underlying25 Try.sizeOf47 Try.typeInfo47 Try.zeroValue47 rfl rfl rfl rfl ⟨rfl, .inr ⟨_, _, _, rfl, RdN.own (k := 0) (n := 3) rfl rfl⟩⟩ (oneB_spec rfl) ho3 (by rw [flat_len claimC_len, turn_lenC]) (by omega) (by show (2 * (_ + _) + 1000) * 24 ≤ 2 ^ 48; omega) (by omega)) rfl ?_)
            rintro _ _ _ ⟨u3, hu3, rfl, rfl, rfl⟩
            refine ⟨(fun _ hI => Inv.pick 1 rfl hI), ?_⟩
            refine WH.yd (i := 15) (by kernel_rfl) (qo (qb (qt (qt (qb (qt q0)))))) rfl (Yd.fieldAddr FA27_2 rfl) rfl ?_
            refine WH.one (i := 16) (by kernel_rfl) (WHo.so rfl (SO.store 3 rfl Try.sizeOf25 rfl rfl rfl rfl (Nat.le_of_ble_eq_true rfl) (oneB_spec rfl)) rfl ?_)
            rintro _ _ _ ⟨rfl, rfl, rfl⟩
            refine ⟨(fun _ hI => Inv.pick 1 rfl hI), ?_⟩
            refine WH.nil (by kernel_rfl) ?_
            refine WP.blkNormal ?_
            refine WP.thenC ?_
            refine WC.ofFr [(1, _), (2, _), (4, _), (9, _), (10, _), (11, _), (12, _), (13, _), (14, _), (154, _), (155, _)] ⟨rfl, rfl, rfl, rfl, rfl, rfl, rfl, rfl, rfl, rfl, rfl, trivial⟩ ?_
            refine WC.region ?_
            refine WL.yd (Yd.add rfl rfl (wr64 ⟨by omega, by omega⟩)) rfl ?_
            refine WL.yd (Yd.move rfl) rfl ?_
            refine WL.nil ?_
            refine WP.again (⟨j + 1, some u3⟩ : Nat × Option Ow) ⟨by simp only; omega, hu3⟩ (by simp only; omega) (fun aa ww h => ?_)
            show At _ [(1, .int .u8 (m1 : Int)), (2, .int .u8 (m2 : Int)), (4, pt b4), (9, pt b9), (10, it s), (11, .func (.func 46) #[] #[pt b9]), (12, pt b12), (13, pt b13), (14, .bool (fitTo p s p.bathers.length)), (154, nt p.claims.length), (155, nt (j + 1))] D3 ((b13, .cells (List.toArray [it (p.post.lo + s), it (p.post.hi + s), .slice (owAt o2) p.bathers.length (owCp o2 p.bathers.length), .slice a2 p.claims.length c2]) 27 (0, 0)) :: (b12, .cells (List.toArray [it p.post.lo, it p.post.hi, .slice (owAt o1) p.bathers.length (owCp o1 p.bathers.length), owV (some u3) (j + 1)]) 27 (0, 0)) :: owH (some u3) 47 ((turnCs p (j + 1)).flatMap claimC) []) aa ww
            rw [turnCs_flat]
            exact at_less h ⟨rfl, rfl, rfl, rfl, rfl, rfl, rfl, rfl, rfl, rfl, rfl, trivial⟩ (fun _ h => .tail _ (.tail _ h)) (fun h => (List.nodup_cons.1 (List.nodup_cons.1 h).2).2)
          · refine WHo.so rfl (SO.call (Enters.val Try.call46 rfl rfl) (fun w hI => back46_g p.bathers.length (gt p.claims (p.claims.length - 1 - j)).b b9 _ _ h9 hI.imm (by omega) (by omega))) rfl ?_
            rintro _ _ _ ⟨rfl, rfl, rfl⟩
            refine ⟨(fun _ hI => Inv.pick 0 rfl hI), ?_⟩
            refine WH.yd (i := 12) (by kernel_rfl) (qo (qb (qt (qt (qb (qt q0)))))) rfl (Yd.build SA47 rfl (cs := [_, _, _]) rfl) rfl ?_
            refine WH.two (i := 1) (j := 13) (by kernel_rfl) ?_ ?_
            · refine WHo.yd rfl (Yd.load1 Try.isAgg25 rfl (Rd.own (k := 2) rfl rfl)) rfl ?_
              refine WH.one (i := 13) (by kernel_rfl) (WHo.so rfl (SO.buildSlice Try.underlying25 Try.sizeOf47 Try.zeroValue47 rfl rfl rfl rfl (cs := [_, _, _]) rfl) rfl ?_)
              rintro _ _ _ ⟨b181, hb181, rfl, rfl, rfl⟩ -- NEW
              refine ⟨(fun _ hI => Inv.pick 1 rfl hI), ?_⟩
              refine WH.one (i := 14) (by kernel_rfl) (WHo.so rfl (SO.appendOw (o := o3) (len := j) (n := 1) (xs := ((turnCs p j).flatMap claimC)) (size := 3) [] [_, _, _, _] _ rfl rfl Try.underlying25 Try.sizeOf47 Try.typeInfo47 Try.zeroValue47 rfl rfl rfl rfl ⟨rfl, .inr ⟨_, _, _, rfl, RdN.own (k := 0) (n := 3) rfl rfl⟩⟩ (oneB_spec rfl) ho3 (by rw [flat_len claimC_len, turn_lenC]) (by omega) (by show (2 * (_ + _) + 1000) * 24 ≤ 2 ^ 48; omega) (by omega)) rfl ?_)
              rintro _ _ _ ⟨u3, hu3, rfl, rfl, rfl⟩
              refine ⟨(fun _ hI => Inv.pick 1 rfl hI), ?_⟩
              refine WH.yd (i := 15) (by kernel_rfl) (qo (qb (qt (qt (qb (qt q0)))))) rfl (Yd.fieldAddr FA27_2 rfl) rfl ?_
              refine WH.one (i := 16) (by kernel_rfl) (WHo.so rfl (SO.store 3 rfl Try.sizeOf25 rfl rfl rfl rfl (Nat.le_of_ble_eq_true rfl) (oneB_spec rfl)) rfl ?_)
              rintro _ _ _ ⟨rfl, rfl, rfl⟩
              refine ⟨(fun _ hI => Inv.pick 1 rfl hI), ?_⟩
              refine WH.nil (by kernel_rfl) ?_
              refine WP.blkNormal ?_
              refine WP.thenC ?_
              refine WC.ofFr [(1, _), (2, _), (4, _), (9, _), (10, _), (11, _), (12, _), (13, _), (14, _), (154, _), (155, _)] ⟨rfl, rfl, rfl, rfl, rfl, rfl, rfl, rfl, rfl, rfl, rfl, trivial⟩ ?_
              refine WC.region ?_
              refine WL.yd (Yd.add rfl rfl (wr64 ⟨by omega, by omega⟩)) rfl ?_
              refine WL.yd (Yd.move rfl) rfl ?_
              refine WL.nil ?_
              refine WP.again (⟨j + 1, some u3⟩ : Nat × Option Ow) ⟨by simp only; omega, hu3⟩ (by simp only; omega) (fun aa ww h => ?_)
              show At _ [(1, .int .u8 (m1 : Int)), (2, .int .u8 (m2 : Int)), (4, pt b4), (9, pt b9), (10, it s), (11, .func (.func 46) #[] #[pt b9]), (12, pt b12), (13, pt b13), (14, .bool (fitTo p s p.bathers.length)), (154, nt p.claims.length), (155, nt (j + 1))] D3 ((b13, .cells (List.toArray [it (p.post.lo + s), it (p.post.hi + s), .slice (owAt o2) p.bathers.length (owCp o2 p.bathers.length), .slice a2 p.claims.length c2]) 27 (0, 0)) :: (b12, .cells (List.toArray [it p.post.lo, it p.post.hi, .slice (owAt o1) p.bathers.length (owCp o1 p.bathers.length), owV (some u3) (j + 1)]) 27 (0, 0)) :: owH (some u3) 47 ((turnCs p (j + 1)).flatMap claimC) []) aa ww
              rw [turnCs_flat]
              exact at_less h ⟨rfl, rfl, rfl, rfl, rfl, rfl, rfl, rfl, rfl, rfl, rfl, trivial⟩ (fun _ h => .tail _ (.tail _ h)) (fun h => (List.nodup_cons.1 (List.nodup_cons.1 h).2).2)
            · refine WHo.so rfl (SO.buildSlice Try.underlying25 Try.sizeOf47 Try.zeroValue47 rfl rfl rfl rfl (cs := [_, _, _]) rfl) rfl ?_
              rintro _ _ _ ⟨b181, hb181, rfl, rfl, rfl⟩ -- NEW
              refine ⟨(fun _ hI => Inv.pick 1 rfl hI), ?_⟩
              refine WH.one (i := 1) (by kernel_rfl) (WHo.yd rfl (Yd.load1 Try.isAgg25 rfl (Rd.own (k := 3) rfl rfl)) rfl ?_)
              refine WH.one (i := 14) (by kernel_rfl) (WHo.so rfl (SO.appendOw (o := o3) (len := j) (n := 1) (xs := ((turnCs p j).flatMap claimC)) (size := 3) [] [_, _, _, _] _ rfl rfl Try.underlying25 Try.sizeOf47 Try.typeInfo47 Try.zeroValue47 rfl rfl rfl rfl ⟨rfl, .inr ⟨_, _, _, rfl, RdN.own (k := 0) (n := 3) rfl rfl⟩⟩ (oneB_spec rfl) ho3 (by rw [flat_len claimC_len, turn_lenC]) (by omega) (by show (2 * (_ + _) + 1000) * 24 ≤ 2 ^ 48; omega) (by omega)) rfl ?_)
              rintro _ _ _ ⟨u3, hu3, rfl, rfl, rfl⟩
              refine ⟨(fun _ hI => Inv.pick 1 rfl hI), ?_⟩
              refine WH.yd (i := 15) (by kernel_rfl) (qo (qb (qt (qt (qb (qt q0)))))) rfl (Yd.fieldAddr FA27_2 rfl) rfl ?_
              refine WH.one (i := 16) (by kernel_rfl) (WHo.so rfl (SO.store 3 rfl Try.sizeOf25 rfl rfl rfl rfl (Nat.le_of_ble_eq_true rfl) (oneB_spec rfl)) rfl ?_)
              rintro _ _ _ ⟨rfl, rfl, rfl⟩
              refine ⟨(fun _ hI => Inv.pick 1 rfl hI), ?_⟩
              refine WH.nil (by kernel_rfl) ?_
              refine WP.blkNormal ?_
              refine WP.thenC ?_
              refine WC.ofFr [(1, _), (2, _), (4, _), (9, _), (10, _), (11, _), (12, _), (13, _), (14, _), (154, _), (155, _)] ⟨rfl, rfl, rfl, rfl, rfl, rfl, rfl, rfl, rfl, rfl, rfl, trivial⟩ ?_
              refine WC.region ?_
              refine WL.yd (Yd.add rfl rfl (wr64 ⟨by omega, by omega⟩)) rfl ?_
              refine WL.yd (Yd.move rfl) rfl ?_
              refine WL.nil ?_
              refine WP.again (⟨j + 1, some u3⟩ : Nat × Option Ow) ⟨by simp only; omega, hu3⟩ (by simp only; omega) (fun aa ww h => ?_)
              show At _ [(1, .int .u8 (m1 : Int)), (2, .int .u8 (m2 : Int)), (4, pt b4), (9, pt b9), (10, it s), (11, .func (.func 46) #[] #[pt b9]), (12, pt b12), (13, pt b13), (14, .bool (fitTo p s p.bathers.length)), (154, nt p.claims.length), (155, nt (j + 1))] D3 ((b13, .cells (List.toArray [it (p.post.lo + s), it (p.post.hi + s), .slice (owAt o2) p.bathers.length (owCp o2 p.bathers.length), .slice a2 p.claims.length c2]) 27 (0, 0)) :: (b12, .cells (List.toArray [it p.post.lo, it p.post.hi, .slice (owAt o1) p.bathers.length (owCp o1 p.bathers.length), owV (some u3) (j + 1)]) 27 (0, 0)) :: owH (some u3) 47 ((turnCs p (j + 1)).flatMap claimC) []) aa ww
              rw [turnCs_flat]
              exact at_less h ⟨rfl, rfl, rfl, rfl, rfl, rfl, rfl, rfl, rfl, rfl, rfl, trivial⟩ (fun _ h => .tail _ (.tail _ h)) (fun h => (List.nodup_cons.1 (List.nodup_cons.1 h).2).2)
      · try simp only [zq1, zq2, zq3, zq4, zq5, zq6, zq7, zq8] at c156
        refine WC.exit ?_
        refine WP.thenExit ?_
        refine WP.thenExit ?_
        refine WP.blkHit ?_
        refine WP.thenC ?_
        obtain rfl : j = p.claims.length := by omega
        rw [owV_eqP ho3]
        refine WC.freezeOw (f := claimC) claimC_len [_, _] [] o3 47 (turnCs p p.claims.length) rfl (by rw [turn_lenC]; exact ho3) rfl (fun D4 hX4 hS3 => ?_)
        rw [turn_lenC] at hS3
        replace hS1 := hS1.ext hX4
        replace hS2 := hS2.ext hX4
        replace hR := hR.ext hX4
        replace hP := hX4.old _ _ hP
        replace h9 := hX4.old _ _ h9
        refine (?_ : WC Try.prog _ _ D4 [_, _] _ _)
        refine WC.seqJ (fun y : Ow × Ow => [(1, .int .u8 (m1 : Int)), (2, .int .u8 (m2 : Int)), (4, pt b4), (9, pt b9), (10, it s), (11, .func (.func 46) #[] #[pt b9]), (12, pt b12), (13, pt b13), (14, .bool (fitTo p s p.bathers.length)), (19, .slice (some ⟨y.1.b, 0, none⟩) p.bathers.length y.1.cap), (20, .slice (some ⟨y.2.b, 0, none⟩) p.claims.length y.2.cap)]) (fun y => [(y.1.b, .cells (List.toArray (p.bathers.flatMap bathC ++ y.1.rest)) 56 (0, 0)), (y.2.b, .cells (List.toArray (p.claims.flatMap claimC ++ y.2.rest)) 47 (0, 0)), (b13, .cells (List.toArray [it (p.post.lo + s), it (p.post.hi + s), .slice (owAt o2) p.bathers.length (owCp o2 p.bathers.length), .slice a2 p.claims.length c2]) 27 (0, 0)), (b12, .cells (List.toArray [it p.post.lo, it p.post.hi, .slice (owAt o1) p.bathers.length (owCp o1 p.bathers.length), .slice (owAt o3) p.claims.length (owCp o3 p.claims.length)]) 27 (0, 0))]) (fun _ => D4) (fun y => owP w (some y.1) p.bathers.length 3 ∧ owP w (some y.2) p.claims.length 3) ?_ ?_
        · rintro ⟨u5, u6⟩ ⟨hu5, hu6⟩
          dsimp only at hu5 hu6 ⊢
          refine WC.seq ?_
          refine WC.freezeOw (f := bathC) bathC_len [] [_, _, _] (some u5) 56 p.bathers rfl hu5 rfl (fun D5 hX5 hS5 => ?_)
          refine WC.freezeOw (f := claimC) claimC_len [] [_, _] (some u6) 47 p.claims rfl hu6 rfl (fun D6 hX6 hS6 => ?_)
          have hX46 := hX5.trans hX6 (Nat.le_refl _)
          replace hS5 := hS5.ext hX6
          replace hS1 := hS1.ext hX46
          replace hS2 := hS2.ext hX46
          replace hS3 := hS3.ext hX46
          replace hR := hR.ext hX46
          replace hP := hX46.old _ _ hP
          replace h9 := hX46.old _ _ h9
          have hRx : PostR D6 (turnP p) (owAt o1) p.bathers.length (owAt o3) p.claims.length := ⟨hS1, hS3, hl1, hl2⟩
          have hRy : PostR D6 (shiftP p s) (owAt o2) p.bathers.length a2 p.claims.length := ⟨hS2, hR.claim, hl1, hl2⟩
          refine (?_ : WC Try.prog _ _ D6 [_, _] _ _)
          refine WC.ofFr [(1, _), (2, _), (4, _), (9, _), (10, _), (11, _), (12, _), (13, _), (14, _), (19, _), (20, _)] ⟨rfl, rfl, rfl, rfl, rfl, rfl, rfl, rfl, rfl, rfl, rfl, trivial⟩ ?_
          refine WC.tail 13 [0, 1, 2, 3, 4, 5, 6, 7, 8, 9, 10, 11, 12] rfl (by kernel_rfl) (by kernel_rfl)  ?_
          refine WQ.q rfl (Yd.qt (Yd.move rfl)) rfl ?_
          refine WQ.q rfl (Yd.qt (Yd.conv Try.underlying5 Try.underlying3 rfl (wr64 ⟨by omega, by omega⟩))) rfl ?_
          refine WQ.q rfl (Yd.qt (Yd.load1 Try.isAgg3 rfl (by first | exact (Rd.imm hP rfl) | exact (Rd.imm h9 rfl)))) rfl ?_
          refine WQ.q rfl (Yd.qt (Yd.add rfl rfl (wr64 ⟨by omega, by omega⟩))) rfl ?_
          refine WQ.q rfl (Yd.qt (Yd.rem rfl rfl (by omega) (by omega))) rfl ?_
          refine WQ.q rfl (Yd.qt (Yd.sub rfl rfl (wr64 ⟨by omega, by omega⟩))) rfl ?_
          refine WQ.q rfl (Yd.qt (Yd.move rfl)) rfl ?_
          refine WQ.q rfl (Yd.qt (Yd.conv Try.underlying5 Try.underlying3 rfl (wr64 ⟨by omega, by omega⟩))) rfl ?_
          refine WQ.q rfl (Yd.qt (Yd.load1 Try.isAgg3 rfl (by first | exact (Rd.imm hP rfl) | exact (Rd.imm h9 rfl)))) rfl ?_
          refine WQ.q rfl (Yd.qt (Yd.add rfl rfl (wr64 ⟨by omega, by omega⟩))) rfl ?_
          refine WQ.q rfl (Yd.qt (Yd.rem rfl rfl (by omega) (by omega))) rfl ?_
          refine WQ.q rfl (Yd.qt (Yd.sub rfl rfl (wr64 ⟨by omega, by omega⟩))) rfl ?_
          refine WQ.q rfl (Yd.qt (Yd.assign rfl)) rfl ?_
          refine WQ.tail ?_
          refine WL.yd (Yd.assign rfl) rfl ?_
          refine WL.nil ?_
          refine WP.thenC ?_
          refine WC.seq ?_
          generalize hEa : (m1 : Int) % ((p.bathers.length : Int) + 1) - 1 = a
          have hwa : whoP p a = true := decide_eq_true ⟨by omega, by omega⟩
          generalize hEb : (m2 : Int) % ((p.bathers.length : Int) + 1) - 1 = b
          have hwb : whoP p b = true := decide_eq_true ⟨by omega, by omega⟩
          have hda := of_decide_eq_true hwa
          have hdb := of_decide_eq_true hwb
          have hpo := placeO_num hv hwa
          refine WC.ofFr [(22, _), (21, _), (4, _), (9, _), (10, _), (11, _), (12, _), (13, _), (14, _), (19, _), (20, _)] ⟨rfl, rfl, rfl, rfl, rfl, rfl, rfl, rfl, rfl, rfl, rfl, trivial⟩ ?_
          refine WC.region ?_
          refine WL.yd (Yd.loadN Try.isAgg27 Try.sizeOf27 rfl (vs := [_, _, _, _]) rfl (RdN.imm (n := 4) hP rfl)) rfl ?_
          refine WL.yd (Yd.move rfl) rfl ?_
          refine WL.so (SO.callP Try.call15 rfl (fun w hI => Place_g p a1 _ c1 a2 _ c2 _ w hR hI.imm a)) rfl ?_
          rintro _ _ _ ⟨rfl, rfl, rfl⟩
          refine WL.yd (Yd.move rfl) rfl ?_
          refine WL.yd (Yd.extract rfl rfl) rfl ?_
          refine WL.yd (Yd.extract rfl rfl) rfl ?_
          refine WL.so (SO.alloc Try.zeroValue23 rfl) rfl ?_
          rintro _ _ _ ⟨b23, hb23, rfl, rfl, rfl⟩ -- NEW
          refine WL.so (SO.store 0 rfl Try.sizeOf23 rfl rfl rfl rfl (Nat.le_of_ble_eq_true rfl) (oneB_spec rfl)) rfl ?_
          rintro _ _ _ ⟨rfl, rfl, rfl⟩
          refine WL.yd (Yd.assign rfl) rfl ?_
          refine WL.nil ?_
          refine WP.thenC ?_
          refine WC.seq ?_
          refine WC.ofFr [(24, _), (23, _), (22, _), (21, _), (4, _), (9, _), (10, _), (11, _), (12, _), (13, _), (14, _), (19, _), (20, _)] ⟨rfl, rfl, rfl, rfl, rfl, rfl, rfl, rfl, rfl, rfl, rfl, rfl, rfl, trivial⟩ ?_
          refine WC.region ?_
          refine WL.yd (Yd.loadN Try.isAgg27 Try.sizeOf27 rfl (vs := [_, _, _, _]) rfl (RdN.imm (n := 4) hP rfl)) rfl ?_
          refine WL.yd (Yd.move rfl) rfl ?_
          refine WL.yd (Yd.move rfl) rfl ?_
          refine WL.so (SO.callP Try.call17 rfl (fun w hI => Before_g p a1 _ c1 a2 _ c2 _ w hR hI.imm a b)) rfl ?_
          rintro _ _ _ ⟨rfl, rfl, rfl⟩
          refine WL.yd (Yd.move rfl) rfl ?_
          refine WL.yd (Yd.extract rfl rfl) rfl ?_
          refine WL.yd (Yd.extract rfl rfl) rfl ?_
          refine WL.yd (Yd.assign rfl) rfl ?_
          refine WL.yd (Yd.assign rfl) rfl ?_
          refine WL.nil ?_
          refine WP.thenC ?_
          refine WC.seq ?_
          refine WC.ofFr [(26, _), (25, _), (24, _), (23, _), (22, _), (21, _), (4, _), (9, _), (10, _), (11, _), (12, _), (13, _), (14, _), (19, _), (20, _)] ⟨rfl, rfl, rfl, rfl, rfl, rfl, rfl, rfl, rfl, rfl, rfl, rfl, rfl, rfl, rfl, trivial⟩ ?_
          refine WC.region ?_
          refine WL.yd (Yd.loadN Try.isAgg27 Try.sizeOf27 rfl (vs := [_, _, _, _]) rfl (RdN.imm (n := 4) hP rfl)) rfl ?_
          refine WL.yd (Yd.move rfl) rfl ?_
          refine WL.yd (Yd.move rfl) rfl ?_
          refine WL.so (SO.callP Try.call19 rfl (fun w hI => Near_g p a1 _ c1 a2 _ c2 _ w hR hI.imm a b)) rfl ?_
          rintro _ _ _ ⟨rfl, rfl, rfl⟩
          refine WL.yd (Yd.move rfl) rfl ?_
          refine WL.yd (Yd.extract rfl rfl) rfl ?_
          refine WL.yd (Yd.extract rfl rfl) rfl ?_
          refine WL.so (SO.alloc Try.zeroValue23 rfl) rfl ?_
          rintro _ _ _ ⟨b27, hb27, rfl, rfl, rfl⟩ -- NEW
          refine WL.so (SO.store 0 rfl Try.sizeOf23 rfl rfl rfl rfl (Nat.le_of_ble_eq_true rfl) (oneB_spec rfl)) rfl ?_
          rintro _ _ _ ⟨rfl, rfl, rfl⟩
          refine WL.yd (Yd.assign rfl) rfl ?_
          refine WL.nil ?_
          refine WP.thenC ?_
          refine WC.seq ?_
          refine WC.ofFr [(28, _), (27, _), (26, _), (25, _), (24, _), (23, _), (22, _), (21, _), (4, _), (9, _), (10, _), (11, _), (12, _), (13, _), (14, _), (19, _), (20, _)] ⟨rfl, rfl, rfl, rfl, rfl, rfl, rfl, rfl, rfl, rfl, rfl, rfl, rfl, rfl, rfl, rfl, rfl, trivial⟩ ?_
          refine WC.region ?_
          refine WL.yd (Yd.loadN Try.isAgg27 Try.sizeOf27 rfl (vs := [_, _, _, _]) rfl (RdN.imm (n := 4) hP rfl)) rfl ?_
          refine WL.so (SO.callP Try.call21 rfl (fun w hI => Gives.cv (.tuple #[nt (allO p), nt (someO p), it (toldE p true)]) (Breaks_g p a1 _ c1 a2 _ c2 _ w hR hI.imm) (by rw [breaksO hv]))) rfl ?_
          rintro _ _ _ ⟨rfl, rfl, rfl⟩
          refine WL.yd (Yd.move rfl) rfl ?_
          refine WL.yd (Yd.extract rfl rfl) rfl ?_
          refine WL.yd (Yd.extract rfl rfl) rfl ?_
          refine WL.yd (Yd.extract rfl rfl) rfl ?_
          refine WL.yd (Yd.assign rfl) rfl ?_
          refine WL.yd (Yd.assign rfl) rfl ?_
          refine WL.yd (Yd.assign rfl) rfl ?_
          refine WL.nil ?_
          refine WP.thenC ?_
          refine WC.seq ?_
          refine WC.ofFr [(31, _), (30, _), (29, _), (28, _), (27, _), (26, _), (25, _), (24, _), (23, _), (22, _), (21, _), (4, _), (9, _), (10, _), (11, _), (12, _), (13, _), (14, _), (19, _), (20, _)] ⟨rfl, rfl, rfl, rfl, rfl, rfl, rfl, rfl, rfl, rfl, rfl, rfl, rfl, rfl, rfl, rfl, rfl, rfl, rfl, rfl, trivial⟩ ?_
          refine WC.region ?_
          refine WL.yd (Yd.loadN Try.isAgg27 Try.sizeOf27 rfl (vs := [_, _, _, _]) rfl (RdN.imm (n := 4) hP rfl)) rfl ?_
          refine WL.so (SO.callP Try.call23 rfl (fun w hI => Kept_g p a1 _ c1 a2 _ c2 _ w hR hI.imm)) rfl ?_
          rintro _ _ _ ⟨rfl, rfl, rfl⟩
          refine WL.yd (Yd.move rfl) rfl ?_
          refine WL.yd (Yd.extract rfl rfl) rfl ?_
          refine WL.yd (Yd.extract rfl rfl) rfl ?_
          refine WL.yd (Yd.assign rfl) rfl ?_
          refine WL.yd (Yd.assign rfl) rfl ?_
          refine WL.nil ?_
          refine WP.thenC ?_
          refine WC.seq ?_
          refine WC.ofFr [(33, _), (32, _), (31, _), (30, _), (29, _), (28, _), (27, _), (26, _), (25, _), (24, _), (23, _), (22, _), (21, _), (4, _), (9, _), (10, _), (11, _), (12, _), (13, _), (14, _), (19, _), (20, _)] ⟨rfl, rfl, rfl, rfl, rfl, rfl, rfl, rfl, rfl, rfl, rfl, rfl, rfl, rfl, rfl, rfl, rfl, rfl, rfl, rfl, rfl, rfl, trivial⟩ ?_
          refine WC.region ?_
          refine WL.yd (Yd.loadN Try.isAgg27 Try.sizeOf27 rfl (vs := [_, _, _, _]) rfl (RdN.imm (n := 4) hP rfl)) rfl ?_
          refine WL.so (SO.callP Try.call25 rfl (fun w hI => Fewest_g p a1 _ c1 a2 _ c2 _ w hR hI.imm)) rfl ?_
          rintro _ _ _ ⟨rfl, rfl, rfl⟩
          refine WL.yd (Yd.move rfl) rfl ?_
          refine WL.yd (Yd.extract rfl rfl) rfl ?_
          refine WL.yd (Yd.extract rfl rfl) rfl ?_
          refine WL.so (SO.alloc Try.zeroValue23 rfl) rfl ?_
          rintro _ _ _ ⟨b34, hb34, rfl, rfl, rfl⟩ -- NEW
          refine WL.so (SO.store 0 rfl Try.sizeOf23 rfl rfl rfl rfl (Nat.le_of_ble_eq_true rfl) (oneB_spec rfl)) rfl ?_
          rintro _ _ _ ⟨rfl, rfl, rfl⟩
          refine WL.yd (Yd.assign rfl) rfl ?_
          refine WL.nil ?_
          refine WP.thenC ?_
          refine WC.seq ?_
          refine WC.ofFr [(35, _), (34, _), (33, _), (32, _), (31, _), (30, _), (29, _), (28, _), (27, _), (26, _), (25, _), (24, _), (23, _), (22, _), (21, _), (4, _), (9, _), (10, _), (11, _), (12, _), (13, _), (14, _), (19, _), (20, _)] ⟨rfl, rfl, rfl, rfl, rfl, rfl, rfl, rfl, rfl, rfl, rfl, rfl, rfl, rfl, rfl, rfl, rfl, rfl, rfl, rfl, rfl, rfl, rfl, rfl, trivial⟩ ?_
          refine WC.region ?_
          refine WL.yd (Yd.loadN Try.isAgg27 Try.sizeOf27 rfl (vs := [_, _, _, _]) rfl (RdN.imm (n := 4) hP rfl)) rfl ?_
          refine WL.so (SO.callP Try.call27 rfl (fun w hI => Gives.cv (.tuple #[nt (pop (falseS p)), nt (falseS p), it 0]) (False_g p a1 _ c1 a2 _ c2 _ w hR hI.imm) (by rw [false_out hv]))) rfl ?_
          rintro _ _ _ ⟨rfl, rfl, rfl⟩
          refine WL.yd (Yd.move rfl) rfl ?_
          refine WL.yd (Yd.extract rfl rfl) rfl ?_
          refine WL.yd (Yd.extract rfl rfl) rfl ?_
          refine WL.yd (Yd.extract rfl rfl) rfl ?_
          refine WL.yd (Yd.assign rfl) rfl ?_
          refine WL.yd (Yd.assign rfl) rfl ?_
          refine WL.yd (Yd.assign rfl) rfl ?_
          refine WL.nil ?_
          refine WP.thenC ?_
          refine WC.seq ?_
          refine WC.seq ?_
          refine WC.ofFr [(38, _), (36, _), (35, _), (34, _), (33, _), (32, _), (31, _), (30, _), (29, _), (28, _), (27, _), (26, _), (25, _), (24, _), (23, _), (22, _), (21, _), (4, _), (9, _), (10, _), (11, _), (12, _), (13, _), (14, _), (19, _), (20, _)] ⟨rfl, rfl, rfl, rfl, rfl, rfl, rfl, rfl, rfl, rfl, rfl, rfl, rfl, rfl, rfl, rfl, rfl, rfl, rfl, rfl, rfl, rfl, rfl, rfl, rfl, rfl, trivial⟩ ?_
          refine WC.region ?_
          refine WL.yd (Yd.loadN Try.isAgg27 Try.sizeOf27 rfl (vs := [_, _, _, _]) rfl (RdN.own (k := 4) (n := 4) rfl rfl)) rfl ?_
          refine WL.yd (Yd.loadN Try.isAgg27 Try.sizeOf27 rfl (vs := [_, _, _, _]) rfl (RdN.own (k := 3) (n := 4) rfl rfl)) rfl ?_
          refine WL.so (SO.buildSlice Try.underlying68 Try.sizeOf27 Try.zeroValue27 rfl rfl rfl rfl (cs := [_, _, _, _, _, _, _, _]) rfl) rfl ?_
          rintro _ _ _ ⟨b249, hb249, rfl, rfl, rfl⟩ -- NEW
          refine WL.yd (Yd.lenS rfl Try.underlying68 rfl) rfl ?_
          refine WL.yd (Yd.move rfl) rfl ?_
          refine WL.nil ?_
          refine WP.thenC ?_
          refine WC.block ?_
          refine WC.loopF (fun k : Nat => [(4, pt b4), (9, pt b9), (10, it s), (11, .func (.func 46) #[] #[pt b9]), (14, .bool (fitTo p s p.bathers.length)), (19, .slice (some ⟨u5.b, 0, none⟩) p.bathers.length u5.cap), (20, .slice (some ⟨u6.b, 0, none⟩) p.claims.length u6.cap), (21, it a), (22, it b), (23, pt b23), (24, it (PlaceOut p a).2), (25, it (BeforeOut p a b).1), (26, it (BeforeOut p a b).2), (27, pt b27), (28, it (NearOut p a b).2), (29, nt (allO p)), (30, nt (someO p)), (31, it (toldE p true)), (32, it (KeptOut p).1), (33, it (KeptOut p).2), (34, pt b34), (35, it (FewestOut p).2), (36, nt (pop (falseS p))), (38, it 0), (249, .slice (some ⟨b249, 0, none⟩) 2 2), (250, nt 2), (251, nt k)]) (fun k => k ≤ 2) (fun k => 2 - k) 0 (by omega) (by exact ⟨rfl, rfl, rfl, rfl, rfl, rfl, rfl, rfl, rfl, rfl, rfl, rfl, rfl, rfl, rfl, rfl, rfl, rfl, rfl, rfl, rfl, rfl, rfl, rfl, rfl, rfl, rfl, trivial⟩) ?_
          intro k hk
          refine WC.seq ?_
          refine WC.ofFr [(4, _), (9, _), (10, _), (11, _), (14, _), (19, _), (20, _), (21, _), (22, _), (23, _), (24, _), (25, _), (26, _), (27, _), (28, _), (29, _), (30, _), (31, _), (32, _), (33, _), (34, _), (35, _), (36, _), (38, _), (249, _), (250, _), (251, _)] ⟨rfl, rfl, rfl, rfl, rfl, rfl, rfl, rfl, rfl, rfl, rfl, rfl, rfl, rfl, rfl, rfl, rfl, rfl, rfl, rfl, rfl, rfl, rfl, rfl, rfl, rfl, rfl, trivial⟩ ?_
          refine WC.region ?_
          refine WL.yd (Yd.lss rfl rfl) rfl ?_
          refine WL.nil ?_
          refine WP.thenC ?_
          refine WC.seq ?_
          refine WC.cond rfl (fun c252 => ?_) (fun c252 => ?_)
          · try simp only [zq1, zq2, zq3, zq4, zq5, zq6, zq7, zq8] at c252
            refine WC.skip ?_
            refine WP.thenC ?_
            refine WC.seq ?_
            refine WC.block ?_
            refine WC.seq ?_
            refine WC.ofFr [(4, _), (9, _), (10, _), (11, _), (14, _), (19, _), (20, _), (21, _), (22, _), (23, _), (24, _), (25, _), (26, _), (27, _), (28, _), (29, _), (30, _), (31, _), (32, _), (33, _), (34, _), (35, _), (36, _), (38, _), (249, _), (250, _), (251, _)] ⟨rfl, rfl, rfl, rfl, rfl, rfl, rfl, rfl, rfl, rfl, rfl, rfl, rfl, rfl, rfl, rfl, rfl, rfl, rfl, rfl, rfl, rfl, rfl, rfl, rfl, rfl, rfl, trivial⟩ ?_
            refine WC.region ?_
            refine WL.yd (Yd.move rfl) rfl ?_
            refine WL.yd (Yd.indexS Try.underlying68 Try.sizeOf27 rfl rfl (by omega) (by omega) (by first | exact (rfl : (some ⟨b249, 0, none⟩ : Option Addr) = some ⟨b249, 0, none⟩))) rfl ?_
            refine WL.yd (Yd.loadN Try.isAgg27 Try.sizeOf27 rfl (vs := [it (zP p s k).post.lo, it (zP p s k).post.hi, .slice (pk2 k (owAt o1) (owAt o2)) p.bathers.length (pk2 k (owCp o1 p.bathers.length) (owCp o2 p.bathers.length)), .slice (pk2 k (owAt o3) a2) p.claims.length (pk2 k (owCp o3 p.claims.length) c2)]) rfl (z_rdn (j := 0) (by omega) rfl)) rfl ?_
            refine WL.so (SO.alloc Try.zeroValue27 rfl) rfl ?_
            rintro _ _ _ ⟨b40, hb40, rfl, rfl, rfl⟩ -- NEW
            refine WL.yd (Yd.assign rfl) rfl ?_
            refine WL.so (SO.store 0 rfl Try.sizeOf27 rfl rfl rfl rfl (Nat.le_of_ble_eq_true rfl) (oneB_spec rfl)) rfl ?_
            rintro _ _ _ ⟨rfl, rfl, rfl⟩
            refine WL.nil ?_
            refine WP.thenC ?_
            refine WC.seqJ (fun _ : Unit => [(4, pt b4), (9, pt b9), (10, it s), (11, .func (.func 46) #[] #[pt b9]), (14, .bool (fitTo p s p.bathers.length)), (19, .slice (some ⟨u5.b, 0, none⟩) p.bathers.length u5.cap), (20, .slice (some ⟨u6.b, 0, none⟩) p.claims.length u6.cap), (21, it a), (22, it b), (23, pt b23), (24, it (PlaceOut p a).2), (25, it (BeforeOut p a b).1), (26, it (BeforeOut p a b).2), (27, pt b27), (28, it (NearOut p a b).2), (29, nt (allO p)), (30, nt (someO p)), (31, it (toldE p true)), (32, it (KeptOut p).1), (33, it (KeptOut p).2), (34, pt b34), (35, it (FewestOut p).2), (36, nt (pop (falseS p))), (38, it 0), (249, .slice (some ⟨b249, 0, none⟩) 2 2), (250, nt 2), (251, nt k), (39, nt k), (40, pt b40)]) (fun _ => [(b40, .cells (List.toArray [it (zP p s k).post.lo, it (zP p s k).post.hi, .slice (pk2 k (owAt o1) (owAt o2)) p.bathers.length (pk2 k (owCp o1 p.bathers.length) (owCp o2 p.bathers.length)), .slice (pk2 k (owAt o3) a2) p.claims.length (pk2 k (owCp o3 p.claims.length) c2)]) 27 (0, 0)), (b249, .cells (List.toArray [it p.post.lo, it p.post.hi, .slice (owAt o1) p.bathers.length (owCp o1 p.bathers.length), .slice (owAt o3) p.claims.length (owCp o3 p.claims.length), it (p.post.lo + s), it (p.post.hi + s), .slice (owAt o2) p.bathers.length (owCp o2 p.bathers.length), .slice a2 p.claims.length c2]) 27 (0, 0)), (b34, .cells (List.toArray [it (FewestOut p).1.lo, it (FewestOut p).1.hi]) 23 (0, 0)), (b27, .cells (List.toArray [it (NearOut p a b).1.lo, it (NearOut p a b).1.hi]) 23 (0, 0)), (b23, .cells (List.toArray [it (PlaceOut p a).1.lo, it (PlaceOut p a).1.hi]) 23 (0, 0)), (b13, .cells (List.toArray [it (p.post.lo + s), it (p.post.hi + s), .slice (owAt o2) p.bathers.length (owCp o2 p.bathers.length), .slice a2 p.claims.length c2]) 27 (0, 0)), (b12, .cells (List.toArray [it p.post.lo, it p.post.hi, .slice (owAt o1) p.bathers.length (owCp o1 p.bathers.length), .slice (owAt o3) p.claims.length (owCp o3 p.claims.length)]) 27 (0, 0))]) (fun _ => D6) (fun _ => ¬ k = 1 ∨ fitTo p s p.bathers.length = true) ?_ ?_
            · rintro _ hy33
              refine WC.seq ?_
              have hS : Same p (zP p s k) (zPi p k) (zSh s k) := by
                by_cases hk1 : k = 1
                · exact z_same1 hv hs.1 (hy33.resolve_left (fun h => h hk1)) hk1
                · exact z_same0 hv s (by omega)
              have hRz : PostR D6 (zP p s k) (pk2 k (owAt o1) (owAt o2)) p.bathers.length (pk2 k (owAt o3) a2) p.claims.length := z_post hRx hRy
              have hsh : 0 ≤ (zSh s k) ∧ (zSh s k) < 30 := by unfold zSh pk2; split <;> omega
              have hso : 0 ≤ (shO p a (zSh s k)) ∧ (shO p a (zSh s k)) < 30 := by unfold shO; split <;> omega
              refine WC.ofFr [(4, _), (9, _), (10, _), (11, _), (14, _), (19, _), (20, _), (21, _), (22, _), (23, _), (24, _), (25, _), (26, _), (27, _), (28, _), (29, _), (30, _), (31, _), (32, _), (33, _), (34, _), (35, _), (36, _), (38, _), (249, _), (250, _), (251, _), (39, _), (40, _)] ⟨rfl, rfl, rfl, rfl, rfl, rfl, rfl, rfl, rfl, rfl, rfl, rfl, rfl, rfl, rfl, rfl, rfl, rfl, rfl, rfl, rfl, rfl, rfl, rfl, rfl, rfl, rfl, rfl, rfl, trivial⟩ ?_
              refine WC.region ?_
              refine WL.yd (Yd.move rfl) rfl ?_
              refine WL.yd (Yd.move rfl) rfl ?_
              refine WL.so (SO.call (Enters.val Try.call46 rfl rfl) (fun w hI => back46_g p.bathers.length a b9 _ _ h9 hI.imm (by omega) (by omega))) rfl ?_
              rintro _ _ _ ⟨rfl, rfl, rfl⟩
              refine WL.yd (Yd.move rfl) rfl ?_
              refine WL.yd (Yd.move rfl) rfl ?_
              refine WL.so (SO.call (Enters.val Try.call46 rfl rfl) (fun w hI => back46_g p.bathers.length b b9 _ _ h9 hI.imm (by omega) (by omega))) rfl ?_
              rintro _ _ _ ⟨rfl, rfl, rfl⟩
              refine WL.yd (Yd.assign rfl) rfl ?_
              refine WL.yd (Yd.assign rfl) rfl ?_
              refine WL.yd (Yd.assign rfl) rfl ?_
              refine WL.nil ?_
              refine WP.thenC ?_
              refine WC.seqJ (fun _ : Unit => [(4, pt b4), (9, pt b9), (10, it s), (11, .func (.func 46) #[] #[pt b9]), (14, .bool (fitTo p s p.bathers.length)), (19, .slice (some ⟨u5.b, 0, none⟩) p.bathers.length u5.cap), (20, .slice (some ⟨u6.b, 0, none⟩) p.claims.length u6.cap), (21, it a), (22, it b), (23, pt b23), (24, it (PlaceOut p a).2), (25, it (BeforeOut p a b).1), (26, it (BeforeOut p a b).2), (27, pt b27), (28, it (NearOut p a b).2), (29, nt (allO p)), (30, nt (someO p)), (31, it (toldE p true)), (32, it (KeptOut p).1), (33, it (KeptOut p).2), (34, pt b34), (35, it (FewestOut p).2), (36, nt (pop (falseS p))), (38, it 0), (249, .slice (some ⟨b249, 0, none⟩) 2 2), (250, nt 2), (251, nt k), (39, nt k), (40, pt b40), (41, it (zPi p k a)), (42, it (zPi p k b)), (43, it (zSh s k))]) (fun _ => [(b40, .cells (List.toArray [it (zP p s k).post.lo, it (zP p s k).post.hi, .slice (pk2 k (owAt o1) (owAt o2)) p.bathers.length (pk2 k (owCp o1 p.bathers.length) (owCp o2 p.bathers.length)), .slice (pk2 k (owAt o3) a2) p.claims.length (pk2 k (owCp o3 p.claims.length) c2)]) 27 (0, 0)), (b249, .cells (List.toArray [it p.post.lo, it p.post.hi, .slice (owAt o1) p.bathers.length (owCp o1 p.bathers.length), .slice (owAt o3) p.claims.length (owCp o3 p.claims.length), it (p.post.lo + s), it (p.post.hi + s), .slice (owAt o2) p.bathers.length (owCp o2 p.bathers.length), .slice a2 p.claims.length c2]) 27 (0, 0)), (b34, .cells (List.toArray [it (FewestOut p).1.lo, it (FewestOut p).1.hi]) 23 (0, 0)), (b27, .cells (List.toArray [it (NearOut p a b).1.lo, it (NearOut p a b).1.hi]) 23 (0, 0)), (b23, .cells (List.toArray [it (PlaceOut p a).1.lo, it (PlaceOut p a).1.hi]) 23 (0, 0)), (b13, .cells (List.toArray [it (p.post.lo + s), it (p.post.hi + s), .slice (owAt o2) p.bathers.length (owCp o2 p.bathers.length), .slice a2 p.claims.length c2]) 27 (0, 0)), (b12, .cells (List.toArray [it p.post.lo, it p.post.hi, .slice (owAt o1) p.bathers.length (owCp o1 p.bathers.length), .slice (owAt o3) p.claims.length (owCp o3 p.claims.length)]) 27 (0, 0))]) (fun _ => D6) (fun _ => True) ?_ ?_
              · rintro _ _
                refine WC.seqJ (fun _ : Unit => [(4, pt b4), (9, pt b9), (10, it s), (11, .func (.func 46) #[] #[pt b9]), (14, .bool (fitTo p s p.bathers.length)), (19, .slice (some ⟨u5.b, 0, none⟩) p.bathers.length u5.cap), (20, .slice (some ⟨u6.b, 0, none⟩) p.claims.length u6.cap), (21, it a), (22, it b), (23, pt b23), (24, it (PlaceOut p a).2), (25, it (BeforeOut p a b).1), (26, it (BeforeOut p a b).2), (27, pt b27), (28, it (NearOut p a b).2), (29, nt (allO p)), (30, nt (someO p)), (31, it (toldE p true)), (32, it (KeptOut p).1), (33, it (KeptOut p).2), (34, pt b34), (35, it (FewestOut p).2), (36, nt (pop (falseS p))), (38, it 0), (249, .slice (some ⟨b249, 0, none⟩) 2 2), (250, nt 2), (251, nt k), (39, nt k), (40, pt b40), (41, it (zPi p k a)), (42, it (zPi p k b)), (43, it (shO p a (zSh s k)))]) (fun _ => [(b40, .cells (List.toArray [it (zP p s k).post.lo, it (zP p s k).post.hi, .slice (pk2 k (owAt o1) (owAt o2)) p.bathers.length (pk2 k (owCp o1 p.bathers.length) (owCp o2 p.bathers.length)), .slice (pk2 k (owAt o3) a2) p.claims.length (pk2 k (owCp o3 p.claims.length) c2)]) 27 (0, 0)), (b249, .cells (List.toArray [it p.post.lo, it p.post.hi, .slice (owAt o1) p.bathers.length (owCp o1 p.bathers.length), .slice (owAt o3) p.claims.length (owCp o3 p.claims.length), it (p.post.lo + s), it (p.post.hi + s), .slice (owAt o2) p.bathers.length (owCp o2 p.bathers.length), .slice a2 p.claims.length c2]) 27 (0, 0)), (b34, .cells (List.toArray [it (FewestOut p).1.lo, it (FewestOut p).1.hi]) 23 (0, 0)), (b27, .cells (List.toArray [it (NearOut p a b).1.lo, it (NearOut p a b).1.hi]) 23 (0, 0)), (b23, .cells (List.toArray [it (PlaceOut p a).1.lo, it (PlaceOut p a).1.hi]) 23 (0, 0)), (b13, .cells (List.toArray [it (p.post.lo + s), it (p.post.hi + s), .slice (owAt o2) p.bathers.length (owCp o2 p.bathers.length), .slice a2 p.claims.length c2]) 27 (0, 0)), (b12, .cells (List.toArray [it p.post.lo, it p.post.hi, .slice (owAt o1) p.bathers.length (owCp o1 p.bathers.length), .slice (owAt o3) p.claims.length (owCp o3 p.claims.length)]) 27 (0, 0))]) (fun _ => D6) (fun _ => True) ?_ ?_
                · rintro _ _
                  refine WC.seq ?_
                  refine WC.ofFr [(4, _), (9, _), (10, _), (11, _), (14, _), (19, _), (20, _), (21, _), (22, _), (23, _), (24, _), (25, _), (26, _), (27, _), (28, _), (29, _), (30, _), (31, _), (32, _), (33, _), (34, _), (35, _), (36, _), (38, _), (249, _), (250, _), (251, _), (39, _), (40, _), (41, _), (42, _), (43, _)] ⟨rfl, rfl, rfl, rfl, rfl, rfl, rfl, rfl, rfl, rfl, rfl, rfl, rfl, rfl, rfl, rfl, rfl, rfl, rfl, rfl, rfl, rfl, rfl, rfl, rfl, rfl, rfl, rfl, rfl, rfl, rfl, rfl, trivial⟩ ?_
                  refine WC.region ?_
                  refine WL.yd (Yd.loadN Try.isAgg27 Try.sizeOf27 rfl (vs := [_, _, _, _]) rfl (RdN.own (k := 0) (n := 4) rfl rfl)) rfl ?_
                  refine WL.yd (Yd.move rfl) rfl ?_
                  refine WL.so (SO.callP Try.call15 rfl (fun w hI => Gives.cv (.tuple #[.agg #[it ((PlaceOut p a).1.lo + (shO p a (zSh s k))), it ((PlaceOut p a).1.hi + (shO p a (zSh s k)))], it (PlaceOut p a).2]) (Place_g (zP p s k) (pk2 k (owAt o1) (owAt o2)) _ (pk2 k (owCp o1 p.bathers.length) (owCp o2 p.bathers.length)) (pk2 k (owAt o3) a2) _ (pk2 k (owCp o3 p.claims.length) c2) _ w hRz hI.imm (zPi p k a)) (by rw [hS.placeO hwa]))) rfl ?_
                  rintro _ _ _ ⟨rfl, rfl, rfl⟩
                  refine WL.yd (Yd.move rfl) rfl ?_
                  refine WL.yd (Yd.extract rfl rfl) rfl ?_
                  refine WL.yd (Yd.extract rfl rfl) rfl ?_
                  refine WL.so (SO.alloc Try.zeroValue23 rfl) rfl ?_
                  rintro _ _ _ ⟨b44, hb44, rfl, rfl, rfl⟩ -- NEW
                  refine WL.so (SO.store 0 rfl Try.sizeOf23 rfl rfl rfl rfl (Nat.le_of_ble_eq_true rfl) (oneB_spec rfl)) rfl ?_
                  rintro _ _ _ ⟨rfl, rfl, rfl⟩
                  refine WL.yd (Yd.assign rfl) rfl ?_
                  refine WL.nil ?_
                  refine WP.thenC ?_
                  refine WC.seq ?_
                  refine WC.ofFr [(45, _), (44, _), (4, _), (9, _), (10, _), (11, _), (14, _), (19, _), (20, _), (21, _), (22, _), (23, _), (24, _), (25, _), (26, _), (27, _), (28, _), (29, _), (30, _), (31, _), (32, _), (33, _), (34, _), (35, _), (36, _), (38, _), (249, _), (250, _), (251, _), (39, _), (40, _), (41, _), (42, _), (43, _)] ⟨rfl, rfl, rfl, rfl, rfl, rfl, rfl, rfl, rfl, rfl, rfl, rfl, rfl, rfl, rfl, rfl, rfl, rfl, rfl, rfl, rfl, rfl, rfl, rfl, rfl, rfl, rfl, rfl, rfl, rfl, rfl, rfl, rfl, rfl, trivial⟩ ?_
                  refine WC.region ?_
                  refine WL.yd (Yd.loadN Try.isAgg27 Try.sizeOf27 rfl (vs := [_, _, _, _]) rfl (RdN.own (k := 1) (n := 4) rfl rfl)) rfl ?_
                  refine WL.yd (Yd.move rfl) rfl ?_
                  refine WL.yd (Yd.move rfl) rfl ?_
                  refine WL.so (SO.callP Try.call17 rfl (fun w hI => Gives.cv (.tuple #[it (BeforeOut p a b).1, it (BeforeOut p a b).2]) (Before_g (zP p s k) (pk2 k (owAt o1) (owAt o2)) _ (pk2 k (owCp o1 p.bathers.length) (owCp o2 p.bathers.length)) (pk2 k (owAt o3) a2) _ (pk2 k (owCp o3 p.claims.length) c2) _ w hRz hI.imm (zPi p k a) (zPi p k b)) (by rw [hS.beforeO hwa hwb]))) rfl ?_
                  rintro _ _ _ ⟨rfl, rfl, rfl⟩
                  refine WL.yd (Yd.move rfl) rfl ?_
                  refine WL.yd (Yd.extract rfl rfl) rfl ?_
                  refine WL.yd (Yd.extract rfl rfl) rfl ?_
                  refine WL.yd (Yd.assign rfl) rfl ?_
                  refine WL.yd (Yd.assign rfl) rfl ?_
                  refine WL.nil ?_
                  refine WP.thenC ?_
                  refine WC.seq ?_
                  refine WC.ofFr [(47, _), (46, _), (45, _), (44, _), (4, _), (9, _), (10, _), (11, _), (14, _), (19, _), (20, _), (21, _), (22, _), (23, _), (24, _), (25, _), (26, _), (27, _), (28, _), (29, _), (30, _), (31, _), (32, _), (33, _), (34, _), (35, _), (36, _), (38, _), (249, _), (250, _), (251, _), (39, _), (40, _), (41, _), (42, _), (43, _)] ⟨rfl, rfl, rfl, rfl, rfl, rfl, rfl, rfl, rfl, rfl, rfl, rfl, rfl, rfl, rfl, rfl, rfl, rfl, rfl, rfl, rfl, rfl, rfl, rfl, rfl, rfl, rfl, rfl, rfl, rfl, rfl, rfl, rfl, rfl, rfl, rfl, trivial⟩ ?_
                  refine WC.region ?_
                  refine WL.yd (Yd.loadN Try.isAgg27 Try.sizeOf27 rfl (vs := [_, _, _, _]) rfl (RdN.own (k := 1) (n := 4) rfl rfl)) rfl ?_
                  refine WL.yd (Yd.move rfl) rfl ?_
                  refine WL.yd (Yd.move rfl) rfl ?_
                  refine WL.so (SO.callP Try.call19 rfl (fun w hI => Gives.cv (.tuple #[.agg #[it (NearOut p a b).1.lo, it (NearOut p a b).1.hi], it (NearOut p a b).2]) (Near_g (zP p s k) (pk2 k (owAt o1) (owAt o2)) _ (pk2 k (owCp o1 p.bathers.length) (owCp o2 p.bathers.length)) (pk2 k (owAt o3) a2) _ (pk2 k (owCp o3 p.claims.length) c2) _ w hRz hI.imm (zPi p k a) (zPi p k b)) (by rw [hS.nearO hwa hwb]))) rfl ?_
                  rintro _ _ _ ⟨rfl, rfl, rfl⟩
                  refine WL.yd (Yd.move rfl) rfl ?_
                  refine WL.yd (Yd.extract rfl rfl) rfl ?_
                  refine WL.yd (Yd.extract rfl rfl) rfl ?_
                  refine WL.so (SO.alloc Try.zeroValue23 rfl) rfl ?_
                  rintro _ _ _ ⟨b48, hb48, rfl, rfl, rfl⟩ -- NEW
                  refine WL.so (SO.store 0 rfl Try.sizeOf23 rfl rfl rfl rfl (Nat.le_of_ble_eq_true rfl) (oneB_spec rfl)) rfl ?_
                  rintro _ _ _ ⟨rfl, rfl, rfl⟩
                  refine WL.yd (Yd.assign rfl) rfl ?_
                  refine WL.nil ?_
                  refine WP.thenC ?_
                  refine WC.seq ?_
                  refine WC.ofFr [(49, _), (48, _), (47, _), (46, _), (45, _), (44, _), (4, _), (9, _), (10, _), (11, _), (14, _), (19, _), (20, _), (21, _), (22, _), (23, _), (24, _), (25, _), (26, _), (27, _), (28, _), (29, _), (30, _), (31, _), (32, _), (33, _), (34, _), (35, _), (36, _), (38, _), (249, _), (250, _), (251, _), (39, _), (40, _), (43, _)] ⟨rfl, rfl, rfl, rfl, rfl, rfl, rfl, rfl, rfl, rfl, rfl, rfl, rfl, rfl, rfl, rfl, rfl, rfl, rfl, rfl, rfl, rfl, rfl, rfl, rfl, rfl, rfl, rfl, rfl, rfl, rfl, rfl, rfl, rfl, rfl, rfl, trivial⟩ ?_
                  refine WC.region ?_
                  refine WL.yd (Yd.loadN Try.isAgg27 Try.sizeOf27 rfl (vs := [_, _, _, _]) rfl (RdN.own (k := 2) (n := 4) rfl rfl)) rfl ?_
                  refine WL.so (SO.callP Try.call21 rfl (fun w hI => Gives.cv (.tuple #[nt (allO (zP p s k)), nt (someO (zP p s k)), it (toldE p true)]) (Breaks_g (zP p s k) (pk2 k (owAt o1) (owAt o2)) _ (pk2 k (owCp o1 p.bathers.length) (owCp o2 p.bathers.length)) (pk2 k (owAt o3) a2) _ (pk2 k (owCp o3 p.claims.length) c2) _ w hRz hI.imm) (by rw [breaksO hS.okz, hS.toldO]))) rfl ?_
                  rintro _ _ _ ⟨rfl, rfl, rfl⟩
                  refine WL.yd (Yd.move rfl) rfl ?_
                  refine WL.yd (Yd.extract rfl rfl) rfl ?_
                  refine WL.yd (Yd.extract rfl rfl) rfl ?_
                  refine WL.yd (Yd.extract rfl rfl) rfl ?_
                  refine WL.yd (Yd.assign rfl) rfl ?_
                  refine WL.yd (Yd.assign rfl) rfl ?_
                  refine WL.yd (Yd.assign rfl) rfl ?_
                  refine WL.nil ?_
                  refine WP.thenC ?_
                  refine WC.seq ?_
                  refine WC.ofFr [(52, _), (51, _), (50, _), (49, _), (48, _), (47, _), (46, _), (45, _), (44, _), (4, _), (9, _), (10, _), (11, _), (14, _), (19, _), (20, _), (21, _), (22, _), (23, _), (24, _), (25, _), (26, _), (27, _), (28, _), (29, _), (30, _), (31, _), (32, _), (33, _), (34, _), (35, _), (36, _), (38, _), (249, _), (250, _), (251, _), (39, _), (40, _), (43, _)] ⟨rfl, rfl, rfl, rfl, rfl, rfl, rfl, rfl, rfl, rfl, rfl, rfl, rfl, rfl, rfl, rfl, rfl, rfl, rfl, rfl, rfl, rfl, rfl, rfl, rfl, rfl, rfl, rfl, rfl, rfl, rfl, rfl, rfl, rfl, rfl, rfl, rfl, rfl, rfl, trivial⟩ ?_
                  refine WC.region ?_
                  refine WL.yd (Yd.loadN Try.isAgg27 Try.sizeOf27 rfl (vs := [_, _, _, _]) rfl (RdN.own (k := 2) (n := 4) rfl rfl)) rfl ?_
                  refine WL.so (SO.callP Try.call23 rfl (fun w hI => Gives.cv (.tuple #[it (KeptOut p).1, it (KeptOut p).2]) (Kept_g (zP p s k) (pk2 k (owAt o1) (owAt o2)) _ (pk2 k (owCp o1 p.bathers.length) (owCp o2 p.bathers.length)) (pk2 k (owAt o3) a2) _ (pk2 k (owCp o3 p.claims.length) c2) _ w hRz hI.imm) (by rw [hS.keptO]))) rfl ?_
                  rintro _ _ _ ⟨rfl, rfl, rfl⟩
                  refine WL.yd (Yd.move rfl) rfl ?_
                  refine WL.yd (Yd.extract rfl rfl) rfl ?_
                  refine WL.yd (Yd.extract rfl rfl) rfl ?_
                  refine WL.yd (Yd.assign rfl) rfl ?_
                  refine WL.yd (Yd.assign rfl) rfl ?_
                  refine WL.nil ?_
                  refine WP.thenC ?_
                  refine WC.seq ?_
                  refine WC.ofFr [(54, _), (53, _), (52, _), (51, _), (50, _), (49, _), (48, _), (47, _), (46, _), (45, _), (44, _), (4, _), (9, _), (10, _), (11, _), (14, _), (19, _), (20, _), (21, _), (22, _), (23, _), (24, _), (25, _), (26, _), (27, _), (28, _), (29, _), (30, _), (31, _), (32, _), (33, _), (34, _), (35, _), (36, _), (38, _), (249, _), (250, _), (251, _), (39, _), (40, _), (43, _)] ⟨rfl, rfl, rfl, rfl, rfl, rfl, rfl, rfl, rfl, rfl, rfl, rfl, rfl, rfl, rfl, rfl, rfl, rfl, rfl, rfl, rfl, rfl, rfl, rfl, rfl, rfl, rfl, rfl, rfl, rfl, rfl, rfl, rfl, rfl, rfl, rfl, rfl, rfl, rfl, rfl, rfl, trivial⟩ ?_
                  refine WC.region ?_
                  refine WL.yd (Yd.loadN Try.isAgg27 Try.sizeOf27 rfl (vs := [_, _, _, _]) rfl (RdN.own (k := 2) (n := 4) rfl rfl)) rfl ?_
                  refine WL.so (SO.callP Try.call25 rfl (fun w hI => Gives.cv (.tuple #[.agg #[it (FewestOut p).1.lo, it (FewestOut p).1.hi], it (FewestOut p).2]) (Fewest_g (zP p s k) (pk2 k (owAt o1) (owAt o2)) _ (pk2 k (owCp o1 p.bathers.length) (owCp o2 p.bathers.length)) (pk2 k (owAt o3) a2) _ (pk2 k (owCp o3 p.claims.length) c2) _ w hRz hI.imm) (by rw [hS.fewO]))) rfl ?_
                  rintro _ _ _ ⟨rfl, rfl, rfl⟩
                  refine WL.yd (Yd.move rfl) rfl ?_
                  refine WL.yd (Yd.extract rfl rfl) rfl ?_
                  refine WL.yd (Yd.extract rfl rfl) rfl ?_
                  refine WL.so (SO.alloc Try.zeroValue23 rfl) rfl ?_
                  rintro _ _ _ ⟨b55, hb55, rfl, rfl, rfl⟩ -- NEW
                  refine WL.so (SO.store 0 rfl Try.sizeOf23 rfl rfl rfl rfl (Nat.le_of_ble_eq_true rfl) (oneB_spec rfl)) rfl ?_
                  rintro _ _ _ ⟨rfl, rfl, rfl⟩
                  refine WL.yd (Yd.assign rfl) rfl ?_
                  refine WL.nil ?_
                  refine WP.thenC ?_
                  refine WC.seq ?_
                  refine WC.ofFr [(56, _), (55, _), (54, _), (53, _), (52, _), (51, _), (50, _), (49, _), (48, _), (47, _), (46, _), (45, _), (44, _), (4, _), (9, _), (10, _), (11, _), (14, _), (19, _), (20, _), (21, _), (22, _), (23, _), (24, _), (25, _), (26, _), (27, _), (28, _), (29, _), (30, _), (31, _), (32, _), (33, _), (34, _), (35, _), (36, _), (38, _), (249, _), (250, _), (251, _), (39, _), (40, _), (43, _)] ⟨rfl, rfl, rfl, rfl, rfl, rfl, rfl, rfl, rfl, rfl, rfl, rfl, rfl, rfl, rfl, rfl, rfl, rfl, rfl, rfl, rfl, rfl, rfl, rfl, rfl, rfl, rfl, rfl, rfl, rfl, rfl, rfl, rfl, rfl, rfl, rfl, rfl, rfl, rfl, rfl, rfl, rfl, rfl, trivial⟩ ?_
                  refine WC.region ?_
                  refine WL.yd (Yd.loadN Try.isAgg27 Try.sizeOf27 rfl (vs := [_, _, _, _]) rfl (RdN.own (k := 3) (n := 4) rfl rfl)) rfl ?_
                  refine WL.so (SO.callP Try.call27 rfl (fun w hI => Gives.cv (.tuple #[nt (pop (falseS p)), nt (falseS (zP p s k)), it 0]) (False_g (zP p s k) (pk2 k (owAt o1) (owAt o2)) _ (pk2 k (owCp o1 p.bathers.length) (owCp o2 p.bathers.length)) (pk2 k (owAt o3) a2) _ (pk2 k (owCp o3 p.claims.length) c2) _ w hRz hI.imm) (by rw [false_out hS.okz, hS.many]))) rfl ?_
                  rintro _ _ _ ⟨rfl, rfl, rfl⟩
                  refine WL.yd (Yd.move rfl) rfl ?_
                  refine WL.yd (Yd.extract rfl rfl) rfl ?_
                  refine WL.yd (Yd.extract rfl rfl) rfl ?_
                  refine WL.yd (Yd.extract rfl rfl) rfl ?_
                  refine WL.yd (Yd.assign rfl) rfl ?_
                  refine WL.yd (Yd.assign rfl) rfl ?_
                  refine WL.yd (Yd.assign rfl) rfl ?_
                  refine WL.nil ?_
                  refine WP.thenC ?_
                  refine WC.seq ?_
                  refine WC.seq ?_
                  refine WC.ofFr [(59, _), (57, _), (56, _), (55, _), (54, _), (53, _), (52, _), (51, _), (50, _), (49, _), (48, _), (47, _), (46, _), (45, _), (44, _), (4, _), (9, _), (10, _), (11, _), (14, _), (19, _), (20, _), (21, _), (22, _), (23, _), (24, _), (25, _), (26, _), (27, _), (28, _), (29, _), (30, _), (31, _), (32, _), (33, _), (34, _), (35, _), (36, _), (38, _), (249, _), (250, _), (251, _), (39, _), (43, _)] ⟨rfl, rfl, rfl, rfl, rfl, rfl, rfl, rfl, rfl, rfl, rfl, rfl, rfl, rfl, rfl, rfl, rfl, rfl, rfl, rfl, rfl, rfl, rfl, rfl, rfl, rfl, rfl, rfl, rfl, rfl, rfl, rfl, rfl, rfl, rfl, rfl, rfl, rfl, rfl, rfl, rfl, rfl, rfl, rfl, trivial⟩ ?_
                  refine WC.tail 69 [0, 1, 2, 3, 4, 5, 6, 7, 8, 9, 10, 11, 12, 13, 14, 15, 16, 17, 18, 19, 20, 21, 22, 23, 24, 25, 26, 27, 28, 29, 30, 31, 32, 33, 34, 35, 36, 37, 38, 39, 40, 41, 42, 43, 44, 45, 46, 47, 48, 49, 50, 51, 52, 53, 54, 55, 56, 57, 58, 59, 60, 61, 62, 63, 64, 65, 66, 67, 68] rfl (by kernel_rfl) (by kernel_rfl)  ?_
                  refine WQ.q rfl (Yd.qt (Yd.loadN Try.isAgg23 Try.sizeOf23 rfl (vs := [_, _]) rfl (RdN.own (k := 2) (n := 2) rfl rfl))) rfl ?_
                  refine WQ.q rfl (Yd.qt (Yd.fieldAddr FA23_0 rfl)) rfl ?_
                  refine WQ.q rfl (Yd.qt (Yd.load1 Try.isAgg3 rfl (Rd.own (k := 7) rfl rfl))) rfl ?_
                  refine WQ.q rfl (Yd.qt (Yd.move rfl)) rfl ?_
                  refine WQ.q rfl (Yd.qt (Yd.add rfl rfl (wr64 ⟨by omega, by omega⟩))) rfl ?_
                  refine WQ.q rfl (Yd.qt (Yd.fieldAddr FA23_1 rfl)) rfl ?_
                  refine WQ.q rfl (Yd.qt (Yd.load1 Try.isAgg3 rfl (Rd.own (k := 7) rfl rfl))) rfl ?_
                  refine WQ.q rfl (Yd.qt (Yd.move rfl)) rfl ?_
                  refine WQ.q rfl (Yd.qt (Yd.add rfl rfl (wr64 ⟨by omega, by omega⟩))) rfl ?_
                  refine WQ.q rfl (Qt.callP Try.call32 rfl (fun w hI => lspan_g _ _ _)) rfl ?_
                  refine WQ.q rfl (Yd.qt (Yd.neS Try.eqGuardType23 (eq23 _ _ _ _) rfl rfl)) rfl ?_
                  refine WQ.know 327 (.bool false) rfl (congrArg Value.bool (by simp)) ?_
                  refine WQ.q rfl (Yd.qt (Yd.move rfl)) rfl ?_
                  refine WQ.qg rfl rfl (Yd.qt (Yd.move rfl)) rfl ?_
                  refine WQ.qg rfl rfl (Yd.qt (Yd.move rfl)) rfl ?_
                  refine WQ.qg rfl rfl (Yd.qt (Yd.neq rfl rfl)) rfl ?_
                  refine WQ.know 331 (.bool false) rfl (congrArg Value.bool (decide_eq_false (by simp))) ?_
                  refine WQ.q rfl (Yd.qt (Yd.pickF rfl rfl)) rfl ?_
                  refine WQ.q rfl (Yd.qt (Yd.move rfl)) rfl ?_
                  refine WQ.qg rfl rfl (Yd.qt (Yd.move rfl)) rfl ?_
                  refine WQ.qg rfl rfl (Yd.qt (Yd.move rfl)) rfl ?_
                  refine WQ.qg rfl rfl (Yd.qt (Yd.neq rfl rfl)) rfl ?_
                  refine WQ.know 336 (.bool false) rfl (congrArg Value.bool (decide_eq_false (by simp))) ?_
                  refine WQ.q rfl (Yd.qt (Yd.pickF rfl rfl)) rfl ?_
                  refine WQ.q rfl (Yd.qt (Yd.move rfl)) rfl ?_
                  refine WQ.qg rfl rfl (Yd.qt (Yd.move rfl)) rfl ?_
                  refine WQ.qg rfl rfl (Yd.qt (Yd.move rfl)) rfl ?_
                  refine WQ.qg rfl rfl (Yd.qt (Yd.neq rfl rfl)) rfl ?_
                  refine WQ.know 341 (.bool false) rfl (congrArg Value.bool (decide_eq_false (by simp))) ?_
                  refine WQ.q rfl (Yd.qt (Yd.pickF rfl rfl)) rfl ?_
                  refine WQ.q rfl (Yd.qt (Yd.move rfl)) rfl ?_
                  refine WQ.qg rfl rfl (Yd.qt (Yd.loadN Try.isAgg23 Try.sizeOf23 rfl (vs := [_, _]) rfl (RdN.own (k := 1) (n := 2) rfl rfl))) rfl ?_
                  refine WQ.qg rfl rfl (Yd.qt (Yd.loadN Try.isAgg23 Try.sizeOf23 rfl (vs := [_, _]) rfl (RdN.own (k := 6) (n := 2) rfl rfl))) rfl ?_
                  refine WQ.qg rfl rfl (Yd.qt (Yd.neS Try.eqGuardType23 (eq23 _ _ _ _) rfl rfl)) rfl ?_
                  refine WQ.know 346 (.bool false) rfl (congrArg Value.bool (by simp)) ?_
                  refine WQ.q rfl (Yd.qt (Yd.pickF rfl rfl)) rfl ?_
                  refine WQ.q rfl (Yd.qt (Yd.move rfl)) rfl ?_
                  refine WQ.qg rfl rfl (Yd.qt (Yd.move rfl)) rfl ?_
                  refine WQ.qg rfl rfl (Yd.qt (Yd.move rfl)) rfl ?_
                  refine WQ.qg rfl rfl (Yd.qt (Yd.neq rfl rfl)) rfl ?_
                  refine WQ.know 351 (.bool false) rfl (congrArg Value.bool (decide_eq_false (by simp))) ?_
                  refine WQ.q rfl (Yd.qt (Yd.pickF rfl rfl)) rfl ?_
                  refine WQ.q rfl (Yd.qt (Yd.move rfl)) rfl ?_
                  refine WQ.qg rfl rfl (Yd.qt (Yd.move rfl)) rfl ?_
                  refine WQ.qg rfl rfl (Yd.qt (Yd.move rfl)) rfl ?_
                  refine WQ.qg rfl rfl (Yd.qt (Yd.neq rfl rfl)) rfl ?_
                  refine WQ.know 356 (.bool false) rfl (congrArg Value.bool (decide_eq_false (by simp))) ?_
                  refine WQ.q rfl (Yd.qt (Yd.pickF rfl rfl)) rfl ?_
                  refine WQ.q rfl (Yd.qt (Yd.move rfl)) rfl ?_
                  refine WQ.qg rfl rfl (Yd.qt (Yd.move rfl)) rfl ?_
                  refine WQ.qg rfl rfl (Yd.qt (Yd.move rfl)) rfl ?_
                  refine WQ.qg rfl rfl (Yd.qt (Yd.neq rfl rfl)) rfl ?_
                  refine WQ.know 361 (.bool false) rfl (congrArg Value.bool (decide_eq_false (by simp))) ?_
                  refine WQ.q rfl (Yd.qt (Yd.pickF rfl rfl)) rfl ?_
                  refine WQ.q rfl (Yd.qt (Yd.move rfl)) rfl ?_
                  refine WQ.qg rfl rfl (Yd.qt (Yd.move rfl)) rfl ?_
                  refine WQ.qg rfl rfl (Yd.qt (Yd.move rfl)) rfl ?_
                  refine WQ.qg rfl rfl (Yd.qt (Yd.neq rfl rfl)) rfl ?_
                  refine WQ.know 366 (.bool false) rfl (congrArg Value.bool (decide_eq_false (by simp))) ?_
                  refine WQ.q rfl (Yd.qt (Yd.pickF rfl rfl)) rfl ?_
                  refine WQ.q rfl (Yd.qt (Yd.move rfl)) rfl ?_
                  refine WQ.qg rfl rfl (Yd.qt (Yd.loadN Try.isAgg23 Try.sizeOf23 rfl (vs := [_, _]) rfl (RdN.own (k := 0) (n := 2) rfl rfl))) rfl ?_
                  refine WQ.qg rfl rfl (Yd.qt (Yd.loadN Try.isAgg23 Try.sizeOf23 rfl (vs := [_, _]) rfl (RdN.own (k := 5) (n := 2) rfl rfl))) rfl ?_
                  refine WQ.qg rfl rfl (Yd.qt (Yd.neS Try.eqGuardType23 (eq23 _ _ _ _) rfl rfl)) rfl ?_
                  refine WQ.know 371 (.bool false) rfl (congrArg Value.bool (by simp)) ?_
                  refine WQ.q rfl (Yd.qt (Yd.pickF rfl rfl)) rfl ?_
                  refine WQ.q rfl (Yd.qt (Yd.move rfl)) rfl ?_
                  refine WQ.qg rfl rfl (Yd.qt (Yd.move rfl)) rfl ?_
                  refine WQ.qg rfl rfl (Yd.qt (Yd.move rfl)) rfl ?_
                  refine WQ.qg rfl rfl (Yd.qt (Yd.neq rfl rfl)) rfl ?_
                  refine WQ.know 376 (.bool false) rfl (congrArg Value.bool (decide_eq_false (by simp))) ?_
                  refine WQ.q rfl (Yd.qt (Yd.pickF rfl rfl)) rfl ?_
                  refine WQ.q rfl (Yd.qt (Yd.move rfl)) rfl ?_
                  refine WQ.qg rfl rfl (Yd.qt (Yd.move rfl)) rfl ?_
                  refine WQ.qg rfl rfl (Yd.qt (Yd.move rfl)) rfl ?_
                  refine WQ.qg rfl rfl (Yd.qt (Yd.neq rfl rfl)) rfl ?_
                  refine WQ.know 381 (.bool false) rfl (congrArg Value.bool (decide_eq_false (by simp))) ?_
                  refine WQ.q rfl (Yd.qt (Yd.pickF rfl rfl)) rfl ?_
                  refine WQ.q rfl (Yd.qt (Yd.move rfl)) rfl ?_
                  refine WQ.qg rfl rfl (Yd.qt (Yd.move rfl)) rfl ?_
                  refine WQ.qg rfl rfl (Yd.qt (Yd.move rfl)) rfl ?_
                  refine WQ.tail ?_
                  refine WL.ydg rfl (Yd.neq rfl rfl) rfl ?_
                  refine WL.know 386 (.bool false) rfl (congrArg Value.bool (decide_eq_false (by simp))) ?_
                  refine WL.yd (Yd.pickF rfl rfl) rfl ?_
                  refine WL.nil ?_
                  refine WP.thenC ?_
                  refine WC.condF rfl ?_
                  refine WC.skip ?_
                  refine WP.thenC ?_
                  refine WC.seq ?_
                  refine WC.ofFr [(51, _), (50, _), (4, _), (9, _), (10, _), (11, _), (14, _), (19, _), (20, _), (21, _), (22, _), (23, _), (24, _), (25, _), (26, _), (27, _), (28, _), (29, _), (30, _), (31, _), (32, _), (33, _), (34, _), (35, _), (36, _), (38, _), (249, _), (250, _), (251, _), (39, _)] ⟨rfl, rfl, rfl, rfl, rfl, rfl, rfl, rfl, rfl, rfl, rfl, rfl, rfl, rfl, rfl, rfl, rfl, rfl, rfl, rfl, rfl, rfl, rfl, rfl, rfl, rfl, rfl, rfl, rfl, rfl, trivial⟩ ?_
                  refine WC.region ?_
                  refine WL.yd (Yd.load1 Try.isAgg3 rfl (by first | exact (Rd.imm hP rfl) | exact (Rd.imm h9 rfl))) rfl ?_
                  refine WL.yd (Yd.move rfl) rfl ?_
                  refine WL.nil ?_
                  refine WP.thenC ?_
                  refine WC.block ?_
                  refine WC.loopF (fun i : Nat => [(4, pt b4), (9, pt b9), (10, it s), (11, .func (.func 46) #[] #[pt b9]), (14, .bool (fitTo p s p.bathers.length)), (19, .slice (some ⟨u5.b, 0, none⟩) p.bathers.length u5.cap), (20, .slice (some ⟨u6.b, 0, none⟩) p.claims.length u6.cap), (21, it a), (22, it b), (23, pt b23), (24, it (PlaceOut p a).2), (25, it (BeforeOut p a b).1), (26, it (BeforeOut p a b).2), (27, pt b27), (28, it (NearOut p a b).2), (29, nt (allO p)), (30, nt (someO p)), (31, it (toldE p true)), (32, it (KeptOut p).1), (33, it (KeptOut p).2), (34, pt b34), (35, it (FewestOut p).2), (36, nt (pop (falseS p))), (38, it 0), (249, .slice (some ⟨b249, 0, none⟩) 2 2), (250, nt 2), (251, nt k), (39, nt k), (50, nt (allO (zP p s k))), (51, nt (someO (zP p s k))), (388, nt p.bathers.length), (389, nt i)]) (fun i => i ≤ p.bathers.length) (fun i => p.bathers.length - i) 0 (by omega) (by exact ⟨rfl, rfl, rfl, rfl, rfl, rfl, rfl, rfl, rfl, rfl, rfl, rfl, rfl, rfl, rfl, rfl, rfl, rfl, rfl, rfl, rfl, rfl, rfl, rfl, rfl, rfl, rfl, rfl, rfl, rfl, rfl, rfl, trivial⟩) ?_
                  intro i hi
                  refine WC.seq ?_
                  refine WC.ofFr [(4, _), (9, _), (10, _), (11, _), (14, _), (19, _), (20, _), (21, _), (22, _), (23, _), (24, _), (25, _), (26, _), (27, _), (28, _), (29, _), (30, _), (31, _), (32, _), (33, _), (34, _), (35, _), (36, _), (38, _), (249, _), (250, _), (251, _), (39, _), (50, _), (51, _), (388, _), (389, _)] ⟨rfl, rfl, rfl, rfl, rfl, rfl, rfl, rfl, rfl, rfl, rfl, rfl, rfl, rfl, rfl, rfl, rfl, rfl, rfl, rfl, rfl, rfl, rfl, rfl, rfl, rfl, rfl, rfl, rfl, rfl, rfl, rfl, trivial⟩ ?_
                  refine WC.region ?_
                  refine WL.yd (Yd.lss rfl rfl) rfl ?_
                  refine WL.nil ?_
                  refine WP.thenC ?_
                  refine WC.seq ?_
                  refine WC.cond rfl (fun c390 => ?_) (fun c390 => ?_)
                  · try simp only [zq1, zq2, zq3, zq4, zq5, zq6, zq7, zq8] at c390
                    refine WC.skip ?_
                    refine WP.thenC ?_
                    refine WC.seq ?_
                    refine WC.block ?_
                    refine WC.seq ?_
                    refine WC.ofFr [(4, _), (9, _), (10, _), (11, _), (14, _), (19, _), (20, _), (21, _), (22, _), (23, _), (24, _), (25, _), (26, _), (27, _), (28, _), (29, _), (30, _), (31, _), (32, _), (33, _), (34, _), (35, _), (36, _), (38, _), (249, _), (250, _), (251, _), (39, _), (50, _), (51, _), (388, _), (389, _)] ⟨rfl, rfl, rfl, rfl, rfl, rfl, rfl, rfl, rfl, rfl, rfl, rfl, rfl, rfl, rfl, rfl, rfl, rfl, rfl, rfl, rfl, rfl, rfl, rfl, rfl, rfl, rfl, rfl, rfl, rfl, rfl, rfl, trivial⟩ ?_
                    refine WC.region ?_
                    refine WL.yd (Yd.move rfl) rfl ?_
                    refine WL.yd (Yd.assign rfl) rfl ?_
                    refine WL.nil ?_
                    refine WP.thenC ?_
                    refine WC.seq ?_
                    refine WC.ofFr [(60, _), (4, _), (9, _), (10, _), (11, _), (14, _), (19, _), (20, _), (21, _), (22, _), (23, _), (24, _), (25, _), (26, _), (27, _), (28, _), (29, _), (30, _), (31, _), (32, _), (33, _), (34, _), (35, _), (36, _), (38, _), (249, _), (250, _), (251, _), (39, _), (50, _), (51, _), (388, _), (389, _)] ⟨rfl, rfl, rfl, rfl, rfl, rfl, rfl, rfl, rfl, rfl, rfl, rfl, rfl, rfl, rfl, rfl, rfl, rfl, rfl, rfl, rfl, rfl, rfl, rfl, rfl, rfl, rfl, rfl, rfl, rfl, rfl, rfl, rfl, trivial⟩ ?_
                    refine WC.region ?_
                    refine WL.yd (Yd.move rfl) rfl ?_
                    refine WL.yd (Yd.assign rfl) rfl ?_
                    refine WL.nil ?_
                    refine WP.thenC ?_
                    refine WC.seqJ (fun _ : Unit => [(4, pt b4), (9, pt b9), (10, it s), (11, .func (.func 46) #[] #[pt b9]), (14, .bool (fitTo p s p.bathers.length)), (19, .slice (some ⟨u5.b, 0, none⟩) p.bathers.length u5.cap), (20, .slice (some ⟨u6.b, 0, none⟩) p.claims.length u6.cap), (21, it a), (22, it b), (23, pt b23), (24, it (PlaceOut p a).2), (25, it (BeforeOut p a b).1), (26, it (BeforeOut p a b).2), (27, pt b27), (28, it (NearOut p a b).2), (29, nt (allO p)), (30, nt (someO p)), (31, it (toldE p true)), (32, it (KeptOut p).1), (33, it (KeptOut p).2), (34, pt b34), (35, it (FewestOut p).2), (36, nt (pop (falseS p))), (38, it 0), (249, .slice (some ⟨b249, 0, none⟩) 2 2), (250, nt 2), (251, nt k), (39, nt k), (50, nt (allO (zP p s k))), (51, nt (someO (zP p s k))), (388, nt p.bathers.length), (389, nt i), (60, nt i), (61, nt (zPi p k (i : Int)).toNat)]) (fun _ => [(b55, .cells (List.toArray [it (FewestOut p).1.lo, it (FewestOut p).1.hi]) 23 (0, 0)), (b48, .cells (List.toArray [it (NearOut p a b).1.lo, it (NearOut p a b).1.hi]) 23 (0, 0)), (b44, .cells (List.toArray [it ((PlaceOut p a).1.lo + (shO p a (zSh s k))), it ((PlaceOut p a).1.hi + (shO p a (zSh s k)))]) 23 (0, 0)), (b40, .cells (List.toArray [it (zP p s k).post.lo, it (zP p s k).post.hi, .slice (pk2 k (owAt o1) (owAt o2)) p.bathers.length (pk2 k (owCp o1 p.bathers.length) (owCp o2 p.bathers.length)), .slice (pk2 k (owAt o3) a2) p.claims.length (pk2 k (owCp o3 p.claims.length) c2)]) 27 (0, 0)), (b249, .cells (List.toArray [it p.post.lo, it p.post.hi, .slice (owAt o1) p.bathers.length (owCp o1 p.bathers.length), .slice (owAt o3) p.claims.length (owCp o3 p.claims.length), it (p.post.lo + s), it (p.post.hi + s), .slice (owAt o2) p.bathers.length (owCp o2 p.bathers.length), .slice a2 p.claims.length c2]) 27 (0, 0)), (b34, .cells (List.toArray [it (FewestOut p).1.lo, it (FewestOut p).1.hi]) 23 (0, 0)), (b27, .cells (List.toArray [it (NearOut p a b).1.lo, it (NearOut p a b).1.hi]) 23 (0, 0)), (b23, .cells (List.toArray [it (PlaceOut p a).1.lo, it (PlaceOut p a).1.hi]) 23 (0, 0)), (b13, .cells (List.toArray [it (p.post.lo + s), it (p.post.hi + s), .slice (owAt o2) p.bathers.length (owCp o2 p.bathers.length), .slice a2 p.claims.length c2]) 27 (0, 0)), (b12, .cells (List.toArray [it p.post.lo, it p.post.hi, .slice (owAt o1) p.bathers.length (owCp o1 p.bathers.length), .slice (owAt o3) p.claims.length (owCp o3 p.claims.length)]) 27 (0, 0))]) (fun _ => D6) (fun _ => True) ?_ ?_
                    · rintro _ _
                      have hzt := hS.ltO (i := i) (by omega)
                      refine WC.seq ?_
                      refine WC.ofFr [(4, _), (9, _), (10, _), (11, _), (14, _), (19, _), (20, _), (21, _), (22, _), (23, _), (24, _), (25, _), (26, _), (27, _), (28, _), (29, _), (30, _), (31, _), (32, _), (33, _), (34, _), (35, _), (36, _), (38, _), (249, _), (250, _), (251, _), (39, _), (50, _), (51, _), (388, _), (389, _), (60, _), (61, _)] ⟨rfl, rfl, rfl, rfl, rfl, rfl, rfl, rfl, rfl, rfl, rfl, rfl, rfl, rfl, rfl, rfl, rfl, rfl, rfl, rfl, rfl, rfl, rfl, rfl, rfl, rfl, rfl, rfl, rfl, rfl, rfl, rfl, rfl, rfl, trivial⟩ ?_
                      refine WC.tail 18 [0, 1, 2, 3, 4, 5, 6, 7, 8, 9, 10, 11, 12, 13, 14, 15, 16, 17] rfl (by kernel_rfl) (by kernel_rfl)  ?_
                      refine WQ.q rfl (Yd.qt (Yd.move rfl)) rfl ?_
                      refine WQ.q rfl (Yd.qt (Yd.move rfl)) rfl ?_
                      refine WQ.q rfl (Yd.qt (Yd.shrN rfl rfl (by omega))) rfl ?_
                      refine WQ.q rfl (Yd.qt (Yd.and1N rfl rfl)) rfl ?_
                      refine WQ.q rfl (Yd.qt (Yd.move rfl)) rfl ?_
                      refine WQ.q rfl (Yd.qt (Yd.move rfl)) rfl ?_
                      refine WQ.q rfl (Yd.qt (Yd.shrN rfl rfl (by omega))) rfl ?_
                      refine WQ.q rfl (Yd.qt (Yd.and1N rfl rfl)) rfl ?_
                      refine WQ.q rfl (Yd.qt (Yd.neq rfl rfl)) rfl ?_
                      refine WQ.know 407 (.bool false) rfl (congrArg Value.bool (decide_eq_false (fun h => h (by rw [hS.allOB (by omega)])))) ?_
                      refine WQ.q rfl (Yd.qt (Yd.move rfl)) rfl ?_
                      refine WQ.qg rfl rfl (Yd.qt (Yd.move rfl)) rfl ?_
                      refine WQ.qg rfl rfl (Yd.qt (Yd.move rfl)) rfl ?_
                      refine WQ.qg rfl rfl (Yd.qt (Yd.shrN rfl rfl (by omega))) rfl ?_
                      refine WQ.qg rfl rfl (Yd.qt (Yd.and1N rfl rfl)) rfl ?_
                      refine WQ.qg rfl rfl (Yd.qt (Yd.move rfl)) rfl ?_
                      refine WQ.qg rfl rfl (Yd.qt (Yd.move rfl)) rfl ?_
                      refine WQ.qg rfl rfl (Yd.qt (Yd.shrN rfl rfl (by omega))) rfl ?_
                      refine WQ.qg rfl rfl (Yd.qt (Yd.and1N rfl rfl)) rfl ?_
                      refine WQ.tail ?_
                      refine WL.ydg rfl (Yd.neq rfl rfl) rfl ?_
                      refine WL.know 417 (.bool false) rfl (congrArg Value.bool (decide_eq_false (fun h => h (by rw [hS.someOB (by omega)])))) ?_
                      refine WL.yd (Yd.pickF rfl rfl) rfl ?_
                      refine WL.nil ?_
                      refine WP.thenC ?_
                      refine WC.condF rfl ?_
                      refine WC.skip ?_
                      refine WP.blkNormal ?_
                      refine WP.thenC ?_
                      refine WC.ofFr [(4, _), (9, _), (10, _), (11, _), (14, _), (19, _), (20, _), (21, _), (22, _), (23, _), (24, _), (25, _), (26, _), (27, _), (28, _), (29, _), (30, _), (31, _), (32, _), (33, _), (34, _), (35, _), (36, _), (38, _), (249, _), (250, _), (251, _), (39, _), (50, _), (51, _), (388, _), (389, _)] ⟨rfl, rfl, rfl, rfl, rfl, rfl, rfl, rfl, rfl, rfl, rfl, rfl, rfl, rfl, rfl, rfl, rfl, rfl, rfl, rfl, rfl, rfl, rfl, rfl, rfl, rfl, rfl, rfl, rfl, rfl, rfl, rfl, trivial⟩ ?_
                      refine WC.region ?_
                      refine WL.yd (Yd.add rfl rfl (wr64 ⟨by omega, by omega⟩)) rfl ?_
                      refine WL.yd (Yd.move rfl) rfl ?_
                      refine WL.nil ?_
                      exact WP.againF (i + 1) (by omega) (by omega) ⟨rfl, rfl, rfl, rfl, rfl, rfl, rfl, rfl, rfl, rfl, rfl, rfl, rfl, rfl, rfl, rfl, rfl, rfl, rfl, rfl, rfl, rfl, rfl, rfl, rfl, rfl, rfl, rfl, rfl, rfl, rfl, rfl, trivial⟩ (fun _ h => h) (fun h => h)
                    · skip
                      refine WC.seq ?_
                      refine WC.ofFr [(61, _), (60, _), (4, _), (9, _), (10, _), (11, _), (14, _), (19, _), (20, _), (21, _), (22, _), (23, _), (24, _), (25, _), (26, _), (27, _), (28, _), (29, _), (30, _), (31, _), (32, _), (33, _), (34, _), (35, _), (36, _), (38, _), (249, _), (250, _), (251, _), (39, _), (50, _), (51, _), (388, _), (389, _)] ⟨rfl, rfl, rfl, rfl, rfl, rfl, rfl, rfl, rfl, rfl, rfl, rfl, rfl, rfl, rfl, rfl, rfl, rfl, rfl, rfl, rfl, rfl, rfl, rfl, rfl, rfl, rfl, rfl, rfl, rfl, rfl, rfl, rfl, rfl, trivial⟩ ?_
                      refine WC.region ?_
                      refine WL.yd (Yd.move rfl) rfl ?_
                      refine WL.yd (Yd.eql rfl rfl) rfl ?_
                      refine WL.nil ?_
                      refine WP.thenC ?_
                      refine WC.cond rfl (fun c394 => ?_) (fun c394 => ?_)
                      · try simp only [zq1, zq2, zq3, zq4, zq5, zq6, zq7, zq8] at c394
                        refine WC.ofFr [(61, _), (60, _), (4, _), (9, _), (10, _), (11, _), (14, _), (19, _), (20, _), (21, _), (22, _), (23, _), (24, _), (25, _), (26, _), (27, _), (28, _), (29, _), (30, _), (31, _), (32, _), (33, _), (34, _), (35, _), (36, _), (38, _), (249, _), (250, _), (251, _), (39, _), (50, _), (51, _), (388, _), (389, _)] ⟨rfl, rfl, rfl, rfl, rfl, rfl, rfl, rfl, rfl, rfl, rfl, rfl, rfl, rfl, rfl, rfl, rfl, rfl, rfl, rfl, rfl, rfl, rfl, rfl, rfl, rfl, rfl, rfl, rfl, rfl, rfl, rfl, rfl, rfl, trivial⟩ ?_
                        refine WC.region ?_
                        refine WL.yd (Yd.load1 Try.isAgg3 rfl (by first | exact (Rd.imm hP rfl) | exact (Rd.imm h9 rfl))) rfl ?_
                        refine WL.yd (Yd.subN (j := 1) rfl rfl (by omega) (by omega)) rfl ?_
                        refine WL.yd (Yd.move rfl) rfl ?_
                        refine WL.yd (Yd.subN rfl rfl (by omega) (by omega)) rfl ?_
                        refine WL.yd (Yd.assign rfl) rfl ?_
                        refine WL.nil ?_
                        first
                          | (have hk1 : k = 0 := by omega
                             have e1 : (zPi p k (i : Int)).toNat = p.bathers.length - 1 - i := by rw [show zPi p k (i : Int) = backI (p.bathers.length : Int) (i : Int) from if_pos hk1]; exact (turn_ix (by omega)).1
                             refine WP.join () trivial (fun aa ww h => ?_)
                             rw [e1]
                             exact at_fr h ⟨rfl, rfl, rfl, rfl, rfl, rfl, rfl, rfl, rfl, rfl, rfl, rfl, rfl, rfl, rfl, rfl, rfl, rfl, rfl, rfl, rfl, rfl, rfl, rfl, rfl, rfl, rfl, rfl, rfl, rfl, rfl, rfl, rfl, rfl, trivial⟩)
                          | (have hk1 : ¬ k = 0 := by omega
                             have e1 : (zPi p k (i : Int)).toNat = i := by rw [show zPi p k (i : Int) = (i : Int) from if_neg hk1]; exact Int.toNat_natCast i
                             refine WP.join () trivial (fun aa ww h => ?_)
                             rw [e1]
                             exact at_fr h ⟨rfl, rfl, rfl, rfl, rfl, rfl, rfl, rfl, rfl, rfl, rfl, rfl, rfl, rfl, rfl, rfl, rfl, rfl, rfl, rfl, rfl, rfl, rfl, rfl, rfl, rfl, rfl, rfl, rfl, rfl, rfl, rfl, rfl, rfl, trivial⟩)
                      · try simp only [zq1, zq2, zq3, zq4, zq5, zq6, zq7, zq8] at c394
                        refine WC.skip ?_
                        first
                          | (have hk1 : k = 0 := by omega
                             have e1 : (zPi p k (i : Int)).toNat = p.bathers.length - 1 - i := by rw [show zPi p k (i : Int) = backI (p.bathers.length : Int) (i : Int) from if_pos hk1]; exact (turn_ix (by omega)).1
                             refine WP.join () trivial (fun aa ww h => ?_)
                             rw [e1]
                             exact at_fr h ⟨rfl, rfl, rfl, rfl, rfl, rfl, rfl, rfl, rfl, rfl, rfl, rfl, rfl, rfl, rfl, rfl, rfl, rfl, rfl, rfl, rfl, rfl, rfl, rfl, rfl, rfl, rfl, rfl, rfl, rfl, rfl, rfl, rfl, rfl, trivial⟩)
                          | (have hk1 : ¬ k = 0 := by omega
                             have e1 : (zPi p k (i : Int)).toNat = i := by rw [show zPi p k (i : Int) = (i : Int) from if_neg hk1]; exact Int.toNat_natCast i
                             refine WP.join () trivial (fun aa ww h => ?_)
                             rw [e1]
                             exact at_fr h ⟨rfl, rfl, rfl, rfl, rfl, rfl, rfl, rfl, rfl, rfl, rfl, rfl, rfl, rfl, rfl, rfl, rfl, rfl, rfl, rfl, rfl, rfl, rfl, rfl, rfl, rfl, rfl, rfl, rfl, rfl, rfl, rfl, rfl, rfl, trivial⟩)
                  · try simp only [zq1, zq2, zq3, zq4, zq5, zq6, zq7, zq8] at c390
                    refine WC.exit ?_
                    refine WP.thenExit ?_
                    refine WP.thenExit ?_
                    refine WP.blkHit ?_
                    refine WP.blkNormal ?_
                    refine WP.thenC ?_
                    refine WC.ofFr [(4, _), (9, _), (10, _), (11, _), (14, _), (19, _), (20, _), (21, _), (22, _), (23, _), (24, _), (25, _), (26, _), (27, _), (28, _), (29, _), (30, _), (31, _), (32, _), (33, _), (34, _), (35, _), (36, _), (38, _), (249, _), (250, _), (251, _)] ⟨rfl, rfl, rfl, rfl, rfl, rfl, rfl, rfl, rfl, rfl, rfl, rfl, rfl, rfl, rfl, rfl, rfl, rfl, rfl, rfl, rfl, rfl, rfl, rfl, rfl, rfl, rfl, trivial⟩ ?_
                    refine WC.region ?_
                    refine WL.yd (Yd.add rfl rfl (wr64 ⟨by omega, by omega⟩)) rfl ?_
                    refine WL.yd (Yd.move rfl) rfl ?_
                    refine WL.nil ?_
                    exact WP.againF (k + 1) (by omega) (by omega) ⟨rfl, rfl, rfl, rfl, rfl, rfl, rfl, rfl, rfl, rfl, rfl, rfl, rfl, rfl, rfl, rfl, rfl, rfl, rfl, rfl, rfl, rfl, rfl, rfl, rfl, rfl, rfl, trivial⟩ (fun _ h => .tail _ (.tail _ (.tail _ (.tail _ (h))))) (fun h => (List.nodup_cons.1 (List.nodup_cons.1 (List.nodup_cons.1 (List.nodup_cons.1 h).2).2).2).2)
                · skip
                  refine WC.seq ?_
                  refine WC.ofFr [(4, _), (9, _), (10, _), (11, _), (14, _), (19, _), (20, _), (21, _), (22, _), (23, _), (24, _), (25, _), (26, _), (27, _), (28, _), (29, _), (30, _), (31, _), (32, _), (33, _), (34, _), (35, _), (36, _), (38, _), (249, _), (250, _), (251, _), (39, _), (40, _), (41, _), (42, _), (43, _)] ⟨rfl, rfl, rfl, rfl, rfl, rfl, rfl, rfl, rfl, rfl, rfl, rfl, rfl, rfl, rfl, rfl, rfl, rfl, rfl, rfl, rfl, rfl, rfl, rfl, rfl, rfl, rfl, rfl, rfl, rfl, rfl, rfl, trivial⟩ ?_
                  refine WC.region ?_
                  refine WL.yd (Yd.move rfl) rfl ?_
                  refine WL.yd (Yd.neq rfl rfl) rfl ?_
                  refine WL.nil ?_
                  refine WP.thenC ?_
                  refine WC.cond rfl (fun c274 => ?_) (fun c274 => ?_)
                  · try simp only [zq1, zq2, zq3, zq4, zq5, zq6, zq7, zq8] at c274
                    refine WC.ofFr [(4, _), (9, _), (10, _), (11, _), (14, _), (19, _), (20, _), (21, _), (22, _), (23, _), (24, _), (25, _), (26, _), (27, _), (28, _), (29, _), (30, _), (31, _), (32, _), (33, _), (34, _), (35, _), (36, _), (38, _), (249, _), (250, _), (251, _), (39, _), (40, _), (41, _), (42, _), (43, _)] ⟨rfl, rfl, rfl, rfl, rfl, rfl, rfl, rfl, rfl, rfl, rfl, rfl, rfl, rfl, rfl, rfl, rfl, rfl, rfl, rfl, rfl, rfl, rfl, rfl, rfl, rfl, rfl, rfl, rfl, rfl, rfl, rfl, trivial⟩ ?_
                    refine WC.region ?_
                    refine WL.yd (Yd.assign rfl) rfl ?_
                    refine WL.nil ?_
                    first
                      | (have e3 : shO p a (zSh s k) = zSh s k := if_pos (Decidable.not_not.1 c274)
                         refine WP.join () trivial (fun aa ww h => ?_)
                         rw [e3]
                         exact at_fr h ⟨rfl, rfl, rfl, rfl, rfl, rfl, rfl, rfl, rfl, rfl, rfl, rfl, rfl, rfl, rfl, rfl, rfl, rfl, rfl, rfl, rfl, rfl, rfl, rfl, rfl, rfl, rfl, rfl, rfl, rfl, rfl, rfl, trivial⟩)
                      | (have e3 : shO p a (zSh s k) = 0 := if_neg c274
                         refine WP.join () trivial (fun aa ww h => ?_)
                         rw [e3]
                         exact at_fr h ⟨rfl, rfl, rfl, rfl, rfl, rfl, rfl, rfl, rfl, rfl, rfl, rfl, rfl, rfl, rfl, rfl, rfl, rfl, rfl, rfl, rfl, rfl, rfl, rfl, rfl, rfl, rfl, rfl, rfl, rfl, rfl, rfl, trivial⟩)
                  · try simp only [zq1, zq2, zq3, zq4, zq5, zq6, zq7, zq8] at c274
                    refine WC.skip ?_
                    first
                      | (have e3 : shO p a (zSh s k) = zSh s k := if_pos (Decidable.not_not.1 c274)
                         refine WP.join () trivial (fun aa ww h => ?_)
                         rw [e3]
                         exact at_fr h ⟨rfl, rfl, rfl, rfl, rfl, rfl, rfl, rfl, rfl, rfl, rfl, rfl, rfl, rfl, rfl, rfl, rfl, rfl, rfl, rfl, rfl, rfl, rfl, rfl, rfl, rfl, rfl, rfl, rfl, rfl, rfl, rfl, trivial⟩)
                      | (have e3 : shO p a (zSh s k) = 0 := if_neg c274
                         refine WP.join () trivial (fun aa ww h => ?_)
                         rw [e3]
                         exact at_fr h ⟨rfl, rfl, rfl, rfl, rfl, rfl, rfl, rfl, rfl, rfl, rfl, rfl, rfl, rfl, rfl, rfl, rfl, rfl, rfl, rfl, rfl, rfl, rfl, rfl, rfl, rfl, rfl, rfl, rfl, rfl, rfl, rfl, trivial⟩)
              · skip
                refine WC.seq ?_
                refine WC.ofFr [(43, _), (42, _), (41, _), (4, _), (9, _), (10, _), (11, _), (14, _), (19, _), (20, _), (21, _), (22, _), (23, _), (24, _), (25, _), (26, _), (27, _), (28, _), (29, _), (30, _), (31, _), (32, _), (33, _), (34, _), (35, _), (36, _), (38, _), (249, _), (250, _), (251, _), (39, _), (40, _)] ⟨rfl, rfl, rfl, rfl, rfl, rfl, rfl, rfl, rfl, rfl, rfl, rfl, rfl, rfl, rfl, rfl, rfl, rfl, rfl, rfl, rfl, rfl, rfl, rfl, rfl, rfl, rfl, rfl, rfl, rfl, rfl, rfl, trivial⟩ ?_
                refine WC.region ?_
                refine WL.yd (Yd.move rfl) rfl ?_
                refine WL.yd (Yd.eql rfl rfl) rfl ?_
                refine WL.nil ?_
                refine WP.thenC ?_
                refine WC.cond rfl (fun c269 => ?_) (fun c269 => ?_)
                · try simp only [zq1, zq2, zq3, zq4, zq5, zq6, zq7, zq8] at c269
                  refine WC.ofFr [(43, _), (42, _), (41, _), (4, _), (9, _), (10, _), (11, _), (14, _), (19, _), (20, _), (21, _), (22, _), (23, _), (24, _), (25, _), (26, _), (27, _), (28, _), (29, _), (30, _), (31, _), (32, _), (33, _), (34, _), (35, _), (36, _), (38, _), (249, _), (250, _), (251, _), (39, _), (40, _)] ⟨rfl, rfl, rfl, rfl, rfl, rfl, rfl, rfl, rfl, rfl, rfl, rfl, rfl, rfl, rfl, rfl, rfl, rfl, rfl, rfl, rfl, rfl, rfl, rfl, rfl, rfl, rfl, rfl, rfl, rfl, rfl, rfl, trivial⟩ ?_
                  refine WC.region ?_
                  refine WL.yd (Yd.move rfl) rfl ?_
                  refine WL.yd (Yd.move rfl) rfl ?_
                  refine WL.yd (Yd.move rfl) rfl ?_
                  refine WL.yd (Yd.assign rfl) rfl ?_
                  refine WL.yd (Yd.assign rfl) rfl ?_
                  refine WL.yd (Yd.assign rfl) rfl ?_
                  refine WL.nil ?_
                  first
                    | (have hk1 : ¬ k = 0 := by omega
                       have e1 : zPi p k a = a := if_neg hk1
                       have e2 : zPi p k b = b := if_neg hk1
                       have e3 : zSh s k = s := if_neg hk1
                       refine WP.join () trivial (fun aa ww h => ?_)
                       rw [e1, e2, e3]
                       exact at_fr h ⟨rfl, rfl, rfl, rfl, rfl, rfl, rfl, rfl, rfl, rfl, rfl, rfl, rfl, rfl, rfl, rfl, rfl, rfl, rfl, rfl, rfl, rfl, rfl, rfl, rfl, rfl, rfl, rfl, rfl, rfl, rfl, rfl, trivial⟩)
                    | (have hk1 : k = 0 := by omega
                       have e1 : zPi p k a = backI (p.bathers.length : Int) a := if_pos hk1
                       have e2 : zPi p k b = backI (p.bathers.length : Int) b := if_pos hk1
                       have e3 : zSh s k = 0 := if_pos hk1
                       refine WP.join () trivial (fun aa ww h => ?_)
                       rw [e1, e2, e3]
                       exact at_fr h ⟨rfl, rfl, rfl, rfl, rfl, rfl, rfl, rfl, rfl, rfl, rfl, rfl, rfl, rfl, rfl, rfl, rfl, rfl, rfl, rfl, rfl, rfl, rfl, rfl, rfl, rfl, rfl, rfl, rfl, rfl, rfl, rfl, trivial⟩)
                · try simp only [zq1, zq2, zq3, zq4, zq5, zq6, zq7, zq8] at c269
                  refine WC.skip ?_
                  first
                    | (have hk1 : ¬ k = 0 := by omega
                       have e1 : zPi p k a = a := if_neg hk1
                       have e2 : zPi p k b = b := if_neg hk1
                       have e3 : zSh s k = s := if_neg hk1
                       refine WP.join () trivial (fun aa ww h => ?_)
                       rw [e1, e2, e3]
                       exact at_fr h ⟨rfl, rfl, rfl, rfl, rfl, rfl, rfl, rfl, rfl, rfl, rfl, rfl, rfl, rfl, rfl, rfl, rfl, rfl, rfl, rfl, rfl, rfl, rfl, rfl, rfl, rfl, rfl, rfl, rfl, rfl, rfl, rfl, trivial⟩)
                    | (have hk1 : k = 0 := by omega
                       have e1 : zPi p k a = backI (p.bathers.length : Int) a := if_pos hk1
                       have e2 : zPi p k b = backI (p.bathers.length : Int) b := if_pos hk1
                       have e3 : zSh s k = 0 := if_pos hk1
                       refine WP.join () trivial (fun aa ww h => ?_)
                       rw [e1, e2, e3]
                       exact at_fr h ⟨rfl, rfl, rfl, rfl, rfl, rfl, rfl, rfl, rfl, rfl, rfl, rfl, rfl, rfl, rfl, rfl, rfl, rfl, rfl, rfl, rfl, rfl, rfl, rfl, rfl, rfl, rfl, rfl, rfl, rfl, rfl, rfl, trivial⟩)
            · skip
              refine WC.seq ?_
              refine WC.ofFr [(39, _), (40, _), (4, _), (9, _), (10, _), (11, _), (14, _), (19, _), (20, _), (21, _), (22, _), (23, _), (24, _), (25, _), (26, _), (27, _), (28, _), (29, _), (30, _), (31, _), (32, _), (33, _), (34, _), (35, _), (36, _), (38, _), (249, _), (250, _), (251, _)] ⟨rfl, rfl, rfl, rfl, rfl, rfl, rfl, rfl, rfl, rfl, rfl, rfl, rfl, rfl, rfl, rfl, rfl, rfl, rfl, rfl, rfl, rfl, rfl, rfl, rfl, rfl, rfl, rfl, rfl, trivial⟩ ?_
              refine WC.region ?_
              refine WL.yd (Yd.move rfl) rfl ?_
              refine WL.yd (Yd.eql rfl rfl) rfl ?_
              refine WL.yd (Yd.move rfl) rfl ?_
              refine WL.part 258 rfl (fun g258 => ?_) (fun g258 => ?_)
              · try simp only [zq1, zq2, zq3, zq4, zq5, zq6, zq7, zq8] at g258
                refine WL.ydg rfl (Yd.move rfl) rfl ?_
                refine WL.ydg rfl (Yd.not rfl) rfl ?_
                refine WL.yd (Yd.pickT rfl rfl) rfl ?_
                refine WL.nil ?_
                refine WP.thenC ?_
                refine WC.cond rfl (fun c261 => ?_) (fun c261 => ?_)
                · try simp only [zq1, zq2, zq3, zq4, zq5, zq6, zq7, zq8] at c261
                  refine WC.exit ?_
                  refine WP.thenExit ?_
                  refine WP.blkHit ?_
                  refine WP.thenC ?_
                  refine WC.ofFr [(4, _), (9, _), (10, _), (11, _), (14, _), (19, _), (20, _), (21, _), (22, _), (23, _), (24, _), (25, _), (26, _), (27, _), (28, _), (29, _), (30, _), (31, _), (32, _), (33, _), (34, _), (35, _), (36, _), (38, _), (249, _), (250, _), (251, _)] ⟨rfl, rfl, rfl, rfl, rfl, rfl, rfl, rfl, rfl, rfl, rfl, rfl, rfl, rfl, rfl, rfl, rfl, rfl, rfl, rfl, rfl, rfl, rfl, rfl, rfl, rfl, rfl, trivial⟩ ?_
                  refine WC.region ?_
                  refine WL.yd (Yd.add rfl rfl (wr64 ⟨by omega, by omega⟩)) rfl ?_
                  refine WL.yd (Yd.move rfl) rfl ?_
                  refine WL.nil ?_
                  exact WP.againF (k + 1) (by omega) (by omega) ⟨rfl, rfl, rfl, rfl, rfl, rfl, rfl, rfl, rfl, rfl, rfl, rfl, rfl, rfl, rfl, rfl, rfl, rfl, rfl, rfl, rfl, rfl, rfl, rfl, rfl, rfl, rfl, trivial⟩ (fun _ h => .tail _ (h)) (fun h => (List.nodup_cons.1 h).2)
                · try simp only [zq1, zq2, zq3, zq4, zq5, zq6, zq7, zq8] at c261
                  refine WC.skip ?_
                  first
                    | exact WP.join () (.inr c261) (fun aa ww h => at_fr h ⟨rfl, rfl, rfl, rfl, rfl, rfl, rfl, rfl, rfl, rfl, rfl, rfl, rfl, rfl, rfl, rfl, rfl, rfl, rfl, rfl, rfl, rfl, rfl, rfl, rfl, rfl, rfl, rfl, rfl, trivial⟩)
                    | exact WP.join () (.inr (by simpa using c261)) (fun aa ww h => at_fr h ⟨rfl, rfl, rfl, rfl, rfl, rfl, rfl, rfl, rfl, rfl, rfl, rfl, rfl, rfl, rfl, rfl, rfl, rfl, rfl, rfl, rfl, rfl, rfl, rfl, rfl, rfl, rfl, rfl, rfl, trivial⟩)
                    | exact WP.join () (.inl (by omega)) (fun aa ww h => at_fr h ⟨rfl, rfl, rfl, rfl, rfl, rfl, rfl, rfl, rfl, rfl, rfl, rfl, rfl, rfl, rfl, rfl, rfl, rfl, rfl, rfl, rfl, rfl, rfl, rfl, rfl, rfl, rfl, rfl, rfl, trivial⟩)
              · try simp only [zq1, zq2, zq3, zq4, zq5, zq6, zq7, zq8] at g258
                refine WL.skip rfl rfl ?_
                refine WL.skip rfl rfl ?_
                refine WL.yd (Yd.pickF rfl rfl) rfl ?_
                refine WL.nil ?_
                refine WP.thenC ?_
                refine WC.condF rfl ?_
                refine WC.skip ?_
                first
                  | exact WP.join () (.inr c261) (fun aa ww h => at_fr h ⟨rfl, rfl, rfl, rfl, rfl, rfl, rfl, rfl, rfl, rfl, rfl, rfl, rfl, rfl, rfl, rfl, rfl, rfl, rfl, rfl, rfl, rfl, rfl, rfl, rfl, rfl, rfl, rfl, rfl, trivial⟩)
                  | exact WP.join () (.inr (by simpa using c261)) (fun aa ww h => at_fr h ⟨rfl, rfl, rfl, rfl, rfl, rfl, rfl, rfl, rfl, rfl, rfl, rfl, rfl, rfl, rfl, rfl, rfl, rfl, rfl, rfl, rfl, rfl, rfl, rfl, rfl, rfl, rfl, rfl, rfl, trivial⟩)
                  | exact WP.join () (.inl (by omega)) (fun aa ww h => at_fr h ⟨rfl, rfl, rfl, rfl, rfl, rfl, rfl, rfl, rfl, rfl, rfl, rfl, rfl, rfl, rfl, rfl, rfl, rfl, rfl, rfl, rfl, rfl, rfl, rfl, rfl, rfl, rfl, rfl, rfl, trivial⟩)
          · try simp only [zq1, zq2, zq3, zq4, zq5, zq6, zq7, zq8] at c252
            refine WC.exit ?_
            refine WP.thenExit ?_
            refine WP.thenExit ?_
            refine WP.blkHit ?_
            refine WP.thenC ?_
            refine WC.seq ?_
            refine WC.seq ?_
            refine WC.ofFr [(4, _), (19, _), (20, _)] ⟨rfl, rfl, rfl, trivial⟩ ?_
            refine WC.region ?_
            refine WL.yd (Yd.move rfl) rfl ?_
            refine WL.yd (Yd.lenS rfl Try.underlying24 rfl) rfl ?_
            refine WL.yd (Yd.move rfl) rfl ?_
            refine WL.nil ?_
            refine WP.thenC ?_
            refine WC.block ?_
            refine WC.loopF (fun i : Nat => [(4, pt b4), (19, .slice (some ⟨u5.b, 0, none⟩) p.bathers.length u5.cap), (20, .slice (some ⟨u6.b, 0, none⟩) p.claims.length u6.cap), (422, nt p.bathers.length), (423, nt i)]) (fun i => i ≤ p.bathers.length) (fun i => p.bathers.length - i) 0 (by omega) (by exact ⟨rfl, rfl, rfl, rfl, rfl, trivial⟩) ?_
            intro i hi
            refine WC.seq ?_
            refine WC.ofFr [(4, _), (19, _), (20, _), (422, _), (423, _)] ⟨rfl, rfl, rfl, rfl, rfl, trivial⟩ ?_
            refine WC.region ?_
            refine WL.yd (Yd.lss rfl rfl) rfl ?_
            refine WL.nil ?_
            refine WP.thenC ?_
            refine WC.seq ?_
            refine WC.cond rfl (fun c424 => ?_) (fun c424 => ?_)
            · try simp only [zq1, zq2, zq3, zq4, zq5, zq6, zq7, zq8] at c424
              refine WC.skip ?_
              refine WP.thenC ?_
              refine WC.seq ?_
              refine WC.block ?_
              refine WC.seq ?_
              refine WC.ofFr [(4, _), (19, _), (20, _), (422, _), (423, _)] ⟨rfl, rfl, rfl, rfl, rfl, trivial⟩ ?_
              refine WC.region ?_
              refine WL.yd (Yd.move rfl) rfl ?_
              refine WL.yd (Yd.assign rfl) rfl ?_
              refine WL.nil ?_
              refine WP.thenC ?_
              refine WC.seq ?_
              refine WC.ofFr [(62, _), (4, _), (19, _), (20, _), (422, _), (423, _)] ⟨rfl, rfl, rfl, rfl, rfl, rfl, trivial⟩ ?_
              refine WC.tail 9 [0, 1, 2, 3, 4, 5, 6, 7, 8] rfl (by kernel_rfl) (by kernel_rfl)  ?_
              refine WQ.q rfl (Yd.qt (Yd.move rfl)) rfl ?_
              refine WQ.q rfl (Yd.qt (Yd.move rfl)) rfl ?_
              refine WQ.q rfl (Yd.qt (Yd.indexS Try.underlying24 Try.sizeOf56 rfl rfl (by omega) (by omega) (hS5.addr i (by omega)))) rfl ?_
              refine WQ.q rfl (Yd.qt (Yd.loadN Try.isAgg56 Try.sizeOf56 rfl (vs := [_, _, _]) rfl ((hS5.at i (by omega)).rdn 0 3 rfl))) rfl ?_
              refine WQ.q rfl (Yd.qt (Yd.fieldAddr FA27_1 rfl)) rfl ?_
              refine WQ.q rfl (Yd.qt (Yd.load1 Try.isAgg24 rfl (by first | exact (Rd.imm hP rfl) | exact (Rd.imm h9 rfl)))) rfl ?_
              refine WQ.q rfl (Yd.qt (Yd.move rfl)) rfl ?_
              refine WQ.q rfl (Yd.qt (Yd.indexS Try.underlying24 Try.sizeOf56 rfl rfl (by omega) (by omega) (hR.bath.addr i (by omega)))) rfl ?_
              refine WQ.q rfl (Yd.qt (Yd.loadN Try.isAgg56 Try.sizeOf56 rfl (vs := [_, _, _]) rfl ((hR.bath.at i (by omega)).rdn 0 3 rfl))) rfl ?_
              refine WQ.tail ?_
              refine WL.yd (Yd.neS guard56 (eq56 _ _) rfl rfl) rfl ?_
              refine WL.know 435 (.bool false) rfl (congrArg Value.bool (by simp)) ?_
              refine WL.nil ?_
              refine WP.thenC ?_
              refine WC.condF rfl ?_
              refine WC.skip ?_
              refine WP.blkNormal ?_
              refine WP.thenC ?_
              refine WC.ofFr [(4, _), (19, _), (20, _), (422, _), (423, _)] ⟨rfl, rfl, rfl, rfl, rfl, trivial⟩ ?_
              refine WC.region ?_
              refine WL.yd (Yd.add rfl rfl (wr64 ⟨by omega, by omega⟩)) rfl ?_
              refine WL.yd (Yd.move rfl) rfl ?_
              refine WL.nil ?_
              exact WP.againF (i + 1) (by omega) (by omega) ⟨rfl, rfl, rfl, rfl, rfl, trivial⟩ (fun _ h => h) (fun h => h)
            · try simp only [zq1, zq2, zq3, zq4, zq5, zq6, zq7, zq8] at c424
              refine WC.exit ?_
              refine WP.thenExit ?_
              refine WP.thenExit ?_
              refine WP.blkHit ?_
              refine WP.thenC ?_
              refine WC.seq ?_
              refine WC.seq ?_
              refine WC.ofFr [(4, _), (20, _)] ⟨rfl, rfl, trivial⟩ ?_
              refine WC.region ?_
              refine WL.yd (Yd.move rfl) rfl ?_
              refine WL.yd (Yd.lenS rfl Try.underlying25 rfl) rfl ?_
              refine WL.yd (Yd.move rfl) rfl ?_
              refine WL.nil ?_
              refine WP.thenC ?_
              refine WC.block ?_
              clear hi
              refine WC.loopF (fun i : Nat => [(4, pt b4), (20, .slice (some ⟨u6.b, 0, none⟩) p.claims.length u6.cap), (438, nt p.claims.length), (439, nt i)]) (fun i => i ≤ p.claims.length) (fun i => p.claims.length - i) 0 (by omega) (by exact ⟨rfl, rfl, rfl, rfl, trivial⟩) ?_
              intro i hi
              refine WC.seq ?_
              refine WC.ofFr [(4, _), (20, _), (438, _), (439, _)] ⟨rfl, rfl, rfl, rfl, trivial⟩ ?_
              refine WC.region ?_
              refine WL.yd (Yd.lss rfl rfl) rfl ?_
              refine WL.nil ?_
              refine WP.thenC ?_
              refine WC.seq ?_
              refine WC.cond rfl (fun c440 => ?_) (fun c440 => ?_)
              · try simp only [zq1, zq2, zq3, zq4, zq5, zq6, zq7, zq8] at c440
                refine WC.skip ?_
                refine WP.thenC ?_
                refine WC.seq ?_
                refine WC.block ?_
                refine WC.seq ?_
                refine WC.ofFr [(4, _), (20, _), (438, _), (439, _)] ⟨rfl, rfl, rfl, rfl, trivial⟩ ?_
                refine WC.region ?_
                refine WL.yd (Yd.move rfl) rfl ?_
                refine WL.yd (Yd.assign rfl) rfl ?_
                refine WL.nil ?_
                refine WP.thenC ?_
                refine WC.seq ?_
                refine WC.ofFr [(63, _), (4, _), (20, _), (438, _), (439, _)] ⟨rfl, rfl, rfl, rfl, rfl, trivial⟩ ?_
                refine WC.tail 9 [0, 1, 2, 3, 4, 5, 6, 7, 8] rfl (by kernel_rfl) (by kernel_rfl)  ?_
                refine WQ.q rfl (Yd.qt (Yd.move rfl)) rfl ?_
                refine WQ.q rfl (Yd.qt (Yd.move rfl)) rfl ?_
                refine WQ.q rfl (Yd.qt (Yd.indexS Try.underlying25 Try.sizeOf47 rfl rfl (by omega) (by omega) (hS6.addr i (by omega)))) rfl ?_
                refine WQ.q rfl (Yd.qt (Yd.loadN Try.isAgg47 Try.sizeOf47 rfl (vs := [_, _, _]) rfl ((hS6.at i (by omega)).rdn 0 3 rfl))) rfl ?_
                refine WQ.q rfl (Yd.qt (Yd.fieldAddr FA27_2 rfl)) rfl ?_
                refine WQ.q rfl (Yd.qt (Yd.load1 Try.isAgg25 rfl (by first | exact (Rd.imm hP rfl) | exact (Rd.imm h9 rfl)))) rfl ?_
                refine WQ.q rfl (Yd.qt (Yd.move rfl)) rfl ?_
                refine WQ.q rfl (Yd.qt (Yd.indexS Try.underlying25 Try.sizeOf47 rfl rfl (by omega) (by omega) (hR.claim.addr i (by omega)))) rfl ?_
                refine WQ.q rfl (Yd.qt (Yd.loadN Try.isAgg47 Try.sizeOf47 rfl (vs := [_, _, _]) rfl ((hR.claim.at i (by omega)).rdn 0 3 rfl))) rfl ?_
                refine WQ.tail ?_
                refine WL.yd (Yd.neS guard47 (eq47 _ _) rfl rfl) rfl ?_
                refine WL.know 451 (.bool false) rfl (congrArg Value.bool (by simp)) ?_
                refine WL.nil ?_
                refine WP.thenC ?_
                refine WC.condF rfl ?_
                refine WC.skip ?_
                refine WP.blkNormal ?_
                refine WP.thenC ?_
                refine WC.ofFr [(4, _), (20, _), (438, _), (439, _)] ⟨rfl, rfl, rfl, rfl, trivial⟩ ?_
                refine WC.region ?_
                refine WL.yd (Yd.add rfl rfl (wr64 ⟨by omega, by omega⟩)) rfl ?_
                refine WL.yd (Yd.move rfl) rfl ?_
                refine WL.nil ?_
                exact WP.againF (i + 1) (by omega) (by omega) ⟨rfl, rfl, rfl, rfl, trivial⟩ (fun _ h => h) (fun h => h)
              · try simp only [zq1, zq2, zq3, zq4, zq5, zq6, zq7, zq8] at c440
                refine WC.exit ?_
                refine WP.thenExit ?_
                refine WP.thenExit ?_
                refine WP.blkHit ?_
                refine WP.thenC ?_
                refine WC.seq ?_
                refine WC.ofFr [] trivial ?_
                refine WC.region ?_
                refine WL.so (SO.callP Try.call14 rfl (fun w hI => alive_g _ _ hI.imm)) rfl ?_
                rintro _ _ _ ⟨rfl, rfl, rfl⟩
                refine WL.yd (Yd.assign rfl) rfl ?_
                refine WL.nil ?_
                refine WP.thenC ?_
                refine WC.ret ?_
                refine WP.ret1 rfl rfl Try.results12 (RV.tmp rfl) (fun w hI => ⟨rfl, hI.keep⟩)
        · skip
          refine WC.ofFr [(1, _), (2, _), (4, _), (9, _), (10, _), (11, _), (12, _), (13, _), (14, _)] ⟨rfl, rfl, rfl, rfl, rfl, rfl, rfl, rfl, rfl, trivial⟩ ?_
          refine WC.drawH [] (by kernel_rfl) (fun _ hI => Inv.nil hI) ?_
          refine WH.yd (i := 1) (by kernel_rfl) (qo (qt q0)) rfl (Yd.fieldAddr FA27_1 rfl) rfl ?_
          refine WH.yd (i := 2) (by kernel_rfl) (qo (qt q0)) rfl (Yd.load1 Try.isAgg24 rfl (by first | exact Rd.own (k := 0) rfl rfl | exact Rd.own (k := 1) rfl rfl | exact (Rd.imm hP rfl) | exact (Rd.imm h9 rfl))) rfl ?_
          refine WH.yd (i := 5) (by kernel_rfl) (qo (qt q0)) rfl (Yd.fieldAddr FA27_2 rfl) rfl ?_
          refine WH.yd (i := 6) (by kernel_rfl) (qo (qt q0)) rfl (Yd.load1 Try.isAgg25 rfl (by first | exact Rd.own (k := 0) rfl rfl | exact Rd.own (k := 1) rfl rfl | exact (Rd.imm hP rfl) | exact (Rd.imm h9 rfl))) rfl ?_
          refine WH.two (i := 0) (j := 4) (by kernel_rfl) ?_ ?_
          · refine WHo.so rfl (SO.buildSlice0 Try.underlying24 Try.sizeOf56) rfl ?_
            rintro _ _ _ ⟨b185, hb185, rfl, rfl, rfl⟩ -- NEW
            refine ⟨(fun _ hI => Inv.nil hI), ?_⟩
            refine WH.two (i := 3) (j := 4) (by kernel_rfl) ?_ ?_
            · refine WHo.so rfl (SO.appendAll (f := bathC) (l := p.bathers) (m := 3) bathC_len bathC_ones [] _ rfl rfl Try.underlying24 Try.sizeOf56 Try.typeInfo56 Try.zeroValue56 rfl rfl rfl rfl hb185 hR.bath (by show (2 * (_ + _) + 1000) * 24 ≤ 2 ^ 48; omega) (by omega)) rfl ?_
              rintro _ _ _ ⟨u5, hu5, rfl, rfl, rfl⟩
              refine ⟨(fun _ hI => Inv.nil hI), ?_⟩
              refine WH.one (i := 4) (by kernel_rfl) (WHo.so rfl (SO.buildSlice0 Try.underlying25 Try.sizeOf47) rfl ?_)
              rintro _ _ _ ⟨b189, hb189, rfl, rfl, rfl⟩ -- NEW
              refine ⟨(fun _ hI => Inv.nil hI), ?_⟩
              refine WH.one (i := 7) (by kernel_rfl) (WHo.so rfl (SO.appendAll (f := claimC) (l := p.claims) (m := 3) claimC_len claimC_ones [] _ rfl rfl Try.underlying25 Try.sizeOf47 Try.typeInfo47 Try.zeroValue47 rfl rfl rfl rfl hb189 hR.claim (by show (2 * (_ + _) + 1000) * 24 ≤ 2 ^ 48; omega) (by omega)) rfl ?_)
              rintro _ _ _ ⟨u6, hu6, rfl, rfl, rfl⟩
              refine ⟨(fun _ hI => Inv.nil hI), ?_⟩
              refine WH.yd (i := 8) (by kernel_rfl) (qo (qt q0)) rfl (Yd.assign rfl) rfl ?_
              refine WH.yd (i := 9) (by kernel_rfl) (qo (qt q0)) rfl (Yd.assign rfl) rfl ?_
              refine WH.nil (by kernel_rfl) ?_
              exact WP.join (⟨u5, u6⟩ : Ow × Ow) ⟨hu5, hu6⟩ (fun aa ww h => at_perm (P := Try.prog) h ⟨rfl, rfl, rfl, rfl, rfl, rfl, rfl, rfl, rfl, rfl, rfl, trivial⟩ (by exact List.Perm.swap _ _ _))
            · refine WHo.so rfl (SO.buildSlice0 Try.underlying25 Try.sizeOf47) rfl ?_
              rintro _ _ _ ⟨b189, hb189, rfl, rfl, rfl⟩ -- NEW
              refine ⟨(fun _ hI => Inv.nil hI), ?_⟩
              refine WH.one (i := 3) (by kernel_rfl) (WHo.so rfl (SO.appendAll (f := bathC) (l := p.bathers) (m := 3) bathC_len bathC_ones [_] _ rfl rfl Try.underlying24 Try.sizeOf56 Try.typeInfo56 Try.zeroValue56 rfl rfl rfl rfl hb185 hR.bath (by show (2 * (_ + _) + 1000) * 24 ≤ 2 ^ 48; omega) (by omega)) rfl ?_)
              rintro _ _ _ ⟨u5, hu5, rfl, rfl, rfl⟩
              refine ⟨(fun _ hI => Inv.nil hI), ?_⟩
              refine WH.one (i := 7) (by kernel_rfl) (WHo.so rfl (SO.appendAll (f := claimC) (l := p.claims) (m := 3) claimC_len claimC_ones [] _ rfl rfl Try.underlying25 Try.sizeOf47 Try.typeInfo47 Try.zeroValue47 rfl rfl rfl rfl hb189 hR.claim (by show (2 * (_ + _) + 1000) * 24 ≤ 2 ^ 48; omega) (by omega)) rfl ?_)
              rintro _ _ _ ⟨u6, hu6, rfl, rfl, rfl⟩
              refine ⟨(fun _ hI => Inv.nil hI), ?_⟩
              refine WH.yd (i := 8) (by kernel_rfl) (qo (qt q0)) rfl (Yd.assign rfl) rfl ?_
              refine WH.yd (i := 9) (by kernel_rfl) (qo (qt q0)) rfl (Yd.assign rfl) rfl ?_
              refine WH.nil (by kernel_rfl) ?_
              exact WP.join (⟨u5, u6⟩ : Ow × Ow) ⟨hu5, hu6⟩ (fun aa ww h => at_perm (P := Try.prog) h ⟨rfl, rfl, rfl, rfl, rfl, rfl, rfl, rfl, rfl, rfl, rfl, trivial⟩ (by exact List.Perm.swap _ _ _))
          · refine WHo.so rfl (SO.buildSlice0 Try.underlying25 Try.sizeOf47) rfl ?_
            rintro _ _ _ ⟨b189, hb189, rfl, rfl, rfl⟩ -- NEW
            refine ⟨(fun _ hI => Inv.nil hI), ?_⟩
            refine WH.one (i := 0) (by kernel_rfl) (WHo.so rfl (SO.buildSlice0 Try.underlying24 Try.sizeOf56) rfl ?_)
            rintro _ _ _ ⟨b185, hb185, rfl, rfl, rfl⟩ -- NEW
            refine ⟨(fun _ hI => Inv.nil hI), ?_⟩
            refine WH.one (i := 3) (by kernel_rfl) (WHo.so rfl (SO.appendAll (f := bathC) (l := p.bathers) (m := 3) bathC_len bathC_ones [] _ rfl rfl Try.underlying24 Try.sizeOf56 Try.typeInfo56 Try.zeroValue56 rfl rfl rfl rfl hb185 hR.bath (by show (2 * (_ + _) + 1000) * 24 ≤ 2 ^ 48; omega) (by omega)) rfl ?_)
            rintro _ _ _ ⟨u5, hu5, rfl, rfl, rfl⟩
            refine ⟨(fun _ hI => Inv.nil hI), ?_⟩
            refine WH.one (i := 7) (by kernel_rfl) (WHo.so rfl (SO.appendAll (f := claimC) (l := p.claims) (m := 3) claimC_len claimC_ones [_] _ rfl rfl Try.underlying25 Try.sizeOf47 Try.typeInfo47 Try.zeroValue47 rfl rfl rfl rfl hb189 hR.claim (by show (2 * (_ + _) + 1000) * 24 ≤ 2 ^ 48; omega) (by omega)) rfl ?_)
            rintro _ _ _ ⟨u6, hu6, rfl, rfl, rfl⟩
            refine ⟨(fun _ hI => Inv.nil hI), ?_⟩
            refine WH.yd (i := 8) (by kernel_rfl) (qo (qt q0)) rfl (Yd.assign rfl) rfl ?_
            refine WH.yd (i := 9) (by kernel_rfl) (qo (qt q0)) rfl (Yd.assign rfl) rfl ?_
            refine WH.nil (by kernel_rfl) ?_
            exact WP.join (⟨u5, u6⟩ : Ow × Ow) ⟨hu5, hu6⟩ (fun aa ww h => at_fr h ⟨rfl, rfl, rfl, rfl, rfl, rfl, rfl, rfl, rfl, rfl, rfl, trivial⟩)
  · skip
    refine WC.ofFr [(11, _), (10, _), (9, _), (8, _), (4, _), (1, _), (2, _)] ⟨rfl, rfl, rfl, rfl, rfl, rfl, rfl, trivial⟩ ?_
    refine WC.drawH [] (by kernel_rfl) (fun _ hI => Inv.nil hI) ?_
    refine WH.yd (i := 0) (by kernel_rfl) (qo (qt q0)) rfl (Yd.fieldAddr FA27_0 rfl) rfl ?_
    refine WH.yd (i := 1) (by kernel_rfl) (qo (qt q0)) rfl (Yd.loadN Try.isAgg23 Try.sizeOf23 rfl (vs := [_, _]) rfl (by first | exact (RdN.imm (n := 2) hP rfl))) rfl ?_
    refine WH.yd (i := 2) (by kernel_rfl) (qo (qt q0)) rfl (Yd.build SA27 rfl (cs := [_, _, _, _]) rfl) rfl ?_
    refine WH.yd (i := 3) (by kernel_rfl) (qo (qt q0)) rfl (Yd.fieldAddr FA27_0 rfl) rfl ?_
    refine WH.yd (i := 4) (by kernel_rfl) (qo (qt q0)) rfl (Yd.fieldAddr FA23_0 rfl) rfl ?_
    refine WH.yd (i := 5) (by kernel_rfl) (qo (qt q0)) rfl (Yd.load1 Try.isAgg3 rfl (by first | exact (Rd.imm hP rfl) | exact (Rd.imm h9 rfl))) rfl ?_
    refine WH.yd (i := 6) (by kernel_rfl) (qo (qt q0)) rfl (Yd.move rfl) rfl ?_
    refine WH.yd (i := 7) (by kernel_rfl) (qo (qt q0)) rfl (Yd.add rfl rfl (wr64 ⟨by omega, by omega⟩)) rfl ?_
    refine WH.yd (i := 8) (by kernel_rfl) (qo (qt q0)) rfl (Yd.fieldAddr FA27_0 rfl) rfl ?_
    refine WH.yd (i := 9) (by kernel_rfl) (qo (qt q0)) rfl (Yd.fieldAddr FA23_1 rfl) rfl ?_
    refine WH.yd (i := 10) (by kernel_rfl) (qo (qt q0)) rfl (Yd.load1 Try.isAgg3 rfl (by first | exact (Rd.imm hP rfl) | exact (Rd.imm h9 rfl))) rfl ?_
    refine WH.yd (i := 11) (by kernel_rfl) (qo (qt q0)) rfl (Yd.move rfl) rfl ?_
    refine WH.yd (i := 12) (by kernel_rfl) (qo (qt q0)) rfl (Yd.add rfl rfl (wr64 ⟨by omega, by omega⟩)) rfl ?_
    refine WH.yd (i := 14) (by kernel_rfl) (qo (qt q0)) rfl (Yd.fieldAddr FA27_2 rfl) rfl ?_
    refine WH.yd (i := 15) (by kernel_rfl) (qo (qt q0)) rfl (Yd.load1 Try.isAgg25 rfl (by first | exact (Rd.imm hP rfl) | exact (Rd.imm h9 rfl))) rfl ?_
    refine WH.three (i := 13) (j := 17) (k := 18) (by kernel_rfl) ?_ ?_ ?_
    · refine WHo.so rfl (SO.callP Try.call32 rfl (fun w hI => lspan_g _ _ _)) rfl ?_
      rintro _ _ _ ⟨rfl, rfl, rfl⟩
      refine ⟨(fun _ hI => Inv.nil hI), ?_⟩
      refine WH.yd (i := 16) (by kernel_rfl) (qo (qt q0)) rfl (Yd.build SA27 rfl (cs := [_, _, _, _]) rfl) rfl ?_
      refine WH.two (i := 17) (j := 18) (by kernel_rfl) ?_ ?_
      · refine WHo.so rfl (SO.alloc Try.zeroValue27 rfl) rfl ?_
        rintro _ _ _ ⟨b12, hb12, rfl, rfl, rfl⟩ -- NEW
        refine ⟨(fun _ hI => Inv.nil hI), ?_⟩
        refine WH.one (i := 18) (by kernel_rfl) (WHo.so rfl (SO.alloc Try.zeroValue27 rfl) rfl ?_)
        rintro _ _ _ ⟨b13, hb13, rfl, rfl, rfl⟩ -- NEW
        refine ⟨(fun _ hI => Inv.nil hI), ?_⟩
        refine WH.one (i := 19) (by kernel_rfl) (WHo.so rfl (SO.store 1 rfl Try.sizeOf27 rfl rfl rfl rfl (Nat.le_of_ble_eq_true rfl) (oneB_spec rfl)) rfl ?_)
        rintro _ _ _ ⟨rfl, rfl, rfl⟩
        refine ⟨(fun _ hI => Inv.nil hI), ?_⟩
        refine WH.one (i := 20) (by kernel_rfl) (WHo.so rfl (SO.store 0 rfl Try.sizeOf27 rfl rfl rfl rfl (Nat.le_of_ble_eq_true rfl) (oneB_spec rfl)) rfl ?_)
        rintro _ _ _ ⟨rfl, rfl, rfl⟩
        refine ⟨(fun _ hI => Inv.nil hI), ?_⟩
        refine WH.nil (by kernel_rfl) ?_
        exact WP.join (⟨b12, b13⟩ : Nat × Nat) trivial (fun aa ww h => at_fr h ⟨rfl, rfl, rfl, rfl, rfl, rfl, rfl, rfl, trivial⟩)
      · refine WHo.so rfl (SO.alloc Try.zeroValue27 rfl) rfl ?_
        rintro _ _ _ ⟨b13, hb13, rfl, rfl, rfl⟩ -- NEW
        refine ⟨(fun _ hI => Inv.nil hI), ?_⟩
        refine WH.one (i := 17) (by kernel_rfl) (WHo.so rfl (SO.alloc Try.zeroValue27 rfl) rfl ?_)
        rintro _ _ _ ⟨b12, hb12, rfl, rfl, rfl⟩ -- NEW
        refine ⟨(fun _ hI => Inv.nil hI), ?_⟩
        refine WH.one (i := 19) (by kernel_rfl) (WHo.so rfl (SO.store 0 rfl Try.sizeOf27 rfl rfl rfl rfl (Nat.le_of_ble_eq_true rfl) (oneB_spec rfl)) rfl ?_)
        rintro _ _ _ ⟨rfl, rfl, rfl⟩
        refine ⟨(fun _ hI => Inv.nil hI), ?_⟩
        refine WH.one (i := 20) (by kernel_rfl) (WHo.so rfl (SO.store 1 rfl Try.sizeOf27 rfl rfl rfl rfl (Nat.le_of_ble_eq_true rfl) (oneB_spec rfl)) rfl ?_)
        rintro _ _ _ ⟨rfl, rfl, rfl⟩
        refine ⟨(fun _ hI => Inv.nil hI), ?_⟩
        refine WH.nil (by kernel_rfl) ?_
        exact WP.join (⟨b12, b13⟩ : Nat × Nat) trivial (fun aa ww h => at_perm (P := Try.prog) h ⟨rfl, rfl, rfl, rfl, rfl, rfl, rfl, rfl, trivial⟩ (by exact List.Perm.swap _ _ _))
    · refine WHo.so rfl (SO.alloc Try.zeroValue27 rfl) rfl ?_
      rintro _ _ _ ⟨b12, hb12, rfl, rfl, rfl⟩ -- NEW
      refine ⟨(fun _ hI => Inv.nil hI), ?_⟩
      refine WH.two (i := 13) (j := 18) (by kernel_rfl) ?_ ?_
      · refine WHo.so rfl (SO.callP Try.call32 rfl (fun w hI => lspan_g _ _ _)) rfl ?_
        rintro _ _ _ ⟨rfl, rfl, rfl⟩
        refine ⟨(fun _ hI => Inv.nil hI), ?_⟩
        refine WH.yd (i := 16) (by kernel_rfl) (qo (qt q0)) rfl (Yd.build SA27 rfl (cs := [_, _, _, _]) rfl) rfl ?_
        refine WH.one (i := 18) (by kernel_rfl) (WHo.so rfl (SO.alloc Try.zeroValue27 rfl) rfl ?_)
        rintro _ _ _ ⟨b13, hb13, rfl, rfl, rfl⟩ -- NEW
        refine ⟨(fun _ hI => Inv.nil hI), ?_⟩
        refine WH.one (i := 19) (by kernel_rfl) (WHo.so rfl (SO.store 1 rfl Try.sizeOf27 rfl rfl rfl rfl (Nat.le_of_ble_eq_true rfl) (oneB_spec rfl)) rfl ?_)
        rintro _ _ _ ⟨rfl, rfl, rfl⟩
        refine ⟨(fun _ hI => Inv.nil hI), ?_⟩
        refine WH.one (i := 20) (by kernel_rfl) (WHo.so rfl (SO.store 0 rfl Try.sizeOf27 rfl rfl rfl rfl (Nat.le_of_ble_eq_true rfl) (oneB_spec rfl)) rfl ?_)
        rintro _ _ _ ⟨rfl, rfl, rfl⟩
        refine ⟨(fun _ hI => Inv.nil hI), ?_⟩
        refine WH.nil (by kernel_rfl) ?_
        exact WP.join (⟨b12, b13⟩ : Nat × Nat) trivial (fun aa ww h => at_fr h ⟨rfl, rfl, rfl, rfl, rfl, rfl, rfl, rfl, trivial⟩)
      · refine WHo.so rfl (SO.alloc Try.zeroValue27 rfl) rfl ?_
        rintro _ _ _ ⟨b13, hb13, rfl, rfl, rfl⟩ -- NEW
        refine ⟨(fun _ hI => Inv.nil hI), ?_⟩
        refine WH.one (i := 13) (by kernel_rfl) (WHo.so rfl (SO.callP Try.call32 rfl (fun w hI => lspan_g _ _ _)) rfl ?_)
        rintro _ _ _ ⟨rfl, rfl, rfl⟩
        refine ⟨(fun _ hI => Inv.nil hI), ?_⟩
        refine WH.yd (i := 16) (by kernel_rfl) (qo (qt q0)) rfl (Yd.build SA27 rfl (cs := [_, _, _, _]) rfl) rfl ?_
        refine WH.one (i := 19) (by kernel_rfl) (WHo.so rfl (SO.store 1 rfl Try.sizeOf27 rfl rfl rfl rfl (Nat.le_of_ble_eq_true rfl) (oneB_spec rfl)) rfl ?_)
        rintro _ _ _ ⟨rfl, rfl, rfl⟩
        refine ⟨(fun _ hI => Inv.nil hI), ?_⟩
        refine WH.one (i := 20) (by kernel_rfl) (WHo.so rfl (SO.store 0 rfl Try.sizeOf27 rfl rfl rfl rfl (Nat.le_of_ble_eq_true rfl) (oneB_spec rfl)) rfl ?_)
        rintro _ _ _ ⟨rfl, rfl, rfl⟩
        refine ⟨(fun _ hI => Inv.nil hI), ?_⟩
        refine WH.nil (by kernel_rfl) ?_
        exact WP.join (⟨b12, b13⟩ : Nat × Nat) trivial (fun aa ww h => at_fr h ⟨rfl, rfl, rfl, rfl, rfl, rfl, rfl, rfl, trivial⟩)
    · refine WHo.so rfl (SO.alloc Try.zeroValue27 rfl) rfl ?_
      rintro _ _ _ ⟨b13, hb13, rfl, rfl, rfl⟩ -- NEW
      refine ⟨(fun _ hI => Inv.nil hI), ?_⟩
      refine WH.two (i := 13) (j := 17) (by kernel_rfl) ?_ ?_
      · refine WHo.so rfl (SO.callP Try.call32 rfl (fun w hI => lspan_g _ _ _)) rfl ?_
        rintro _ _ _ ⟨rfl, rfl, rfl⟩
        refine ⟨(fun _ hI => Inv.nil hI), ?_⟩
        refine WH.yd (i := 16) (by kernel_rfl) (qo (qt q0)) rfl (Yd.build SA27 rfl (cs := [_, _, _, _]) rfl) rfl ?_
        refine WH.one (i := 17) (by kernel_rfl) (WHo.so rfl (SO.alloc Try.zeroValue27 rfl) rfl ?_)
        rintro _ _ _ ⟨b12, hb12, rfl, rfl, rfl⟩ -- NEW
        refine ⟨(fun _ hI => Inv.nil hI), ?_⟩
        refine WH.one (i := 19) (by kernel_rfl) (WHo.so rfl (SO.store 0 rfl Try.sizeOf27 rfl rfl rfl rfl (Nat.le_of_ble_eq_true rfl) (oneB_spec rfl)) rfl ?_)
        rintro _ _ _ ⟨rfl, rfl, rfl⟩
        refine ⟨(fun _ hI => Inv.nil hI), ?_⟩
        refine WH.one (i := 20) (by kernel_rfl) (WHo.so rfl (SO.store 1 rfl Try.sizeOf27 rfl rfl rfl rfl (Nat.le_of_ble_eq_true rfl) (oneB_spec rfl)) rfl ?_)
        rintro _ _ _ ⟨rfl, rfl, rfl⟩
        refine ⟨(fun _ hI => Inv.nil hI), ?_⟩
        refine WH.nil (by kernel_rfl) ?_
        exact WP.join (⟨b12, b13⟩ : Nat × Nat) trivial (fun aa ww h => at_perm (P := Try.prog) h ⟨rfl, rfl, rfl, rfl, rfl, rfl, rfl, rfl, trivial⟩ (by exact List.Perm.swap _ _ _))
      · refine WHo.so rfl (SO.alloc Try.zeroValue27 rfl) rfl ?_
        rintro _ _ _ ⟨b12, hb12, rfl, rfl, rfl⟩ -- NEW
        refine ⟨(fun _ hI => Inv.nil hI), ?_⟩
        refine WH.one (i := 13) (by kernel_rfl) (WHo.so rfl (SO.callP Try.call32 rfl (fun w hI => lspan_g _ _ _)) rfl ?_)
        rintro _ _ _ ⟨rfl, rfl, rfl⟩
        refine ⟨(fun _ hI => Inv.nil hI), ?_⟩
        refine WH.yd (i := 16) (by kernel_rfl) (qo (qt q0)) rfl (Yd.build SA27 rfl (cs := [_, _, _, _]) rfl) rfl ?_
        refine WH.one (i := 19) (by kernel_rfl) (WHo.so rfl (SO.store 0 rfl Try.sizeOf27 rfl rfl rfl rfl (Nat.le_of_ble_eq_true rfl) (oneB_spec rfl)) rfl ?_)
        rintro _ _ _ ⟨rfl, rfl, rfl⟩
        refine ⟨(fun _ hI => Inv.nil hI), ?_⟩
        refine WH.one (i := 20) (by kernel_rfl) (WHo.so rfl (SO.store 1 rfl Try.sizeOf27 rfl rfl rfl rfl (Nat.le_of_ble_eq_true rfl) (oneB_spec rfl)) rfl ?_)
        rintro _ _ _ ⟨rfl, rfl, rfl⟩
        refine ⟨(fun _ hI => Inv.nil hI), ?_⟩
        refine WH.nil (by kernel_rfl) ?_
        exact WP.join (⟨b12, b13⟩ : Nat × Nat) trivial (fun aa ww h => at_perm (P := Try.prog) h ⟨rfl, rfl, rfl, rfl, rfl, rfl, rfl, rfl, trivial⟩ (by exact List.Perm.swap _ _ _))

theorem turned12_g (p : Post) (a1 : Option Addr) (n1 c1 : Nat) (a2 : Option Addr) (n2 c2 : Nat) (D : Imm) (w : World) (s1 : SlL D 3 (p.bathers.map bathC) a1 n1) (s2 : SlL D 3 (p.claims.map claimC) a2 n2) (hH : Holds D w) (m1 m2 m3 : Nat) (hm1 : m1 ≤ 255) (hm2 : m2 ≤ 255) (hm3 : m3 ≤ 255) : Gives Try.prog 12 [.agg #[it p.post.lo, it p.post.hi, .slice a1 n1 c1, .slice a2 n2 c2], .int .u8 (m1 : Int), .int .u8 (m2 : Int), .int .u8 (m3 : Int)] w (.bool true) := by
  by_cases hl : max (n1 : Int) (n2 : Int) > 40
  · exact turned12_l _ _ a1 n1 c1 a2 n2 c2 m1 m2 m3 D w hH hl
  · have hR : PostR D p a1 n1 a2 n2 := ⟨s1, s2, by omega, by omega⟩
    cases hv : postB p with
    | false => exact turned12_a p a1 n1 c1 a2 n2 c2 D w hR hH m1 m2 m3 hl hv
    | true => exact turned12_o p a1 n1 c1 a2 n2 c2 D w hR hH m1 m2 m3 hm1 hm2 hm3 hl hv

end Go.Proofs.Ytkhmmefgllbobaa
