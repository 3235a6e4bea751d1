import Derived.Test.YtaiegbjgfdhgaaaGreatDoorXG3
import Derived.Test.YtaiegbjgfdhgaaaGreatDoorXG0
import Derived.Test.YtaiegbjgfdhgaaaGreatDoorXG1
import Derived.Test.YtaiegbjgfdhgaaaGreatDoorXG2
set_option linter.all false
set_option maxRecDepth 100000
set_option maxHeartbeats 4000000
attribute [local irreducible] Go.W.WL Go.W.WLF Go.W.WC Go.W.WCF Go.W.WP Go.W.WA Go.W.WQ Go.W.WH Go.W.WHo Go.W.WCn Go.W.Yd Go.W.Qt Go.W.SO Go.Code.wp Go.Code.wpIn
namespace Go.Proofs.YtaiegbjgfdhgaaaGreatDoor
open Go.W Go.Bk
theorem zBA : zj Tryz.prog 254 [.nilFunc] [(0, 1)] := ⟨⟨_, Tryz.zeroValue254, rfl⟩, _, Tryz.underlying254, fun w => by simp [Tryz.sizeOf252]⟩
abbrev zzO := SaF.mk zBA
attribute [instance] zzO
def zrG (x : xb) (o : Option Ow) : List Value := [it x.wide, it x.deep, it x.speed, it x.last, owV o x.seen.length]
structure zAb (w0 : World) (b : Nat) (k : Nat) (x : xb) (M : List Sl) (o : Option Ow) (D : Imm) (h : Hp) : Prop where
  len : M.length = x.seen.length
  row : ∀ i, i < x.seen.length → SlL D 5 ((gt x.seen i).map bsC) (gt M i).a (gt M i).n ∧ (gt M i).n ≤ 2 ^ 30
  ro : owP w0 o x.seen.length 1
  n : x.seen.length ≤ k
  e : h = (b, .cells (zrG x o).toArray 56 (0, 0)) :: owH o 57 (M.flatMap slC) []
theorem zqP : ∀ s, (slC s).length = 1 := fun _ => rfl
def zp4 (w0 : World) (b : Nat) (k : Nat) (x : xb) (D : Imm) (h : Hp) : Prop := ∃ M o, zAb w0 b k x M o D h
theorem zp4.ext {w w0 : World} {b k : Nat} {x : xb} {D D' : Imm} {h : Hp} (hD : DExt w D D') (hS : zp4 w0 b k x D h) : zp4 w0 b k x D' h := by
  obtain ⟨M, o, hS⟩ := hS;exact ⟨M, o, hS.len, fun i hi => ⟨(hS.row i hi).1.ext hD, (hS.row i hi).2⟩, hS.ro, hS.n, hS.e⟩
theorem zrr (c : UInt8) : ∀ (k : Nat) (s p : Bs), p ∈ Lib.splitK [c] 0 k s → p.length ≤ s.length
  | 0, s, p, h => by
    simp only [Lib.splitK, List.mem_singleton] at h;rw [h]; exact Nat.le_refl _
  | k + 1, s, p, h => by
    rw [Lib.splitK] at h;split at h
    · simp only [List.mem_singleton] at h;rw [h]; exact Nat.le_refl _
    rcases List.mem_cons.1 h with rfl | h
    · simp; omega
    have := zrr c k _ p h;simp at this; omega
theorem xR {s p : Bs} (h : p ∈ Lib.split s [32]) : p.length ≤ s.length := zrr 32 _ _ _ h
theorem zwD {α : Type} : ∀ {l : List α}, l.length = 4 → ∃ a b c d, l = [a, b, c, d]
  | [a, b, c, d], _ => ⟨a, b, c, d, rfl⟩
theorem zrF {x : xb} {l : Bs} (h : ¬ (Lib.split l [32]).length = 4) : zn2 x 0 l = none := by
  simp only [zn2];split
  · rename_i e; rw [e] at h; exact absurd rfl h
  rfl
theorem zur {α : Type} [Inhabited α] (l : List α) (x : α) : gt (l ++ [x]) l.length = x := by simp [gt, List.getD]
theorem zus {α : Type} [Inhabited α] {l : List α} {x : α} {i : Nat} (h : i < l.length) : gt (l ++ [x]) i = gt l i := by
  simp only [gt, List.getD]; rw [List.getElem?_append_left h]
theorem zqO {D : Imm} {seen : List (List zmz)} {M : List Sl} {c : List zmz} {s : Sl} (hM : M.length = seen.length) (hr : ∀ i, i < seen.length → SlL D 5 ((gt seen i).map bsC) (gt M i).a (gt M i).n ∧ (gt M i).n ≤ 2 ^ 30) (hs : SlL D 5 (c.map bsC) s.a s.n) (hn : s.n ≤ 2 ^ 30) :
    ∀ i, i < (seen ++ [c]).length → SlL D 5 ((gt (seen ++ [c]) i).map bsC) (gt (M ++ [s]) i).a (gt (M ++ [s]) i).n ∧ (gt (M ++ [s]) i).n ≤ 2 ^ 30 := fun i hi => by
  rw [List.length_append, List.length_singleton] at hi;rcases Nat.lt_or_ge i seen.length with h1 | h1
  · rw [zus h1, zus (by omega)]; exact hr i h1
  obtain rfl : i = seen.length := by omega
  have e : gt (M ++ [s]) seen.length = s := by rw [← hM]; exact zur M s
  rw [zur, e]; exact ⟨hs, hn⟩
theorem zsk (w0 : World) (b : Nat) (x : xb) (k : Nat) (hk : k ≤ 2 ^ 20) (l : Bs) (hl : l.length ≤ 2 ^ 20) (D : Imm) {kM : Bool} (hL : LibD kM D) (w1 : World) (hw : w0.heap.size ≤ w1.heap.size) (h : Hp) (hS : zp4 w0 b k x D h) (hI : Inv D h (keys h) w1 w1) : V4 Tryz.prog 152 [pt b, nt k, st l] w1 D (keys h) (zzi (zp4 w0 b) (zn2 x k l) k) (takeC (zn2 x k l)) := by
  unfold V4;obtain ⟨M, o, hM, hr, ho, hxn, rfl⟩ := hS;refine en Tryz.func152 rfl Tryz.ntmps152 hI (g [[2],[5,0,1,2]] ?_);refine WC.cond rfl (fun c8 => ?_) (fun c8 => ?_)
  · try simp only [zq] at c8
    obtain rfl : k = 0 := by omega
    refine g [[1],[2,0,2]] ?_;refine WL.so (SO.makes (Enters.func Tryz.call153 rfl) (fun w hI => zzg l 32 hl D hL _ hI.imm)) rfl ?_;rintro _ D1 _ ⟨hX1, ⟨a1, n1, c1, rfl, hS1⟩, rfl⟩;refine g [[4],[4,6,0,2]] ?_;refine WL.part 13 rfl (fun g13 => ?_) (fun g13 => ?_)
    · try simp only [zq] at g13
      refine WL.cl rfl (fun w hI => zmq _ _) (g [[3],[1,6,0,2]] ?_);obtain ⟨q0, q1, q2, q3, hsp⟩ := zwD (l := Lib.split l [32]) (by have := hS1.len'; omega);have hq : ∀ p ∈ [q0, q1, q2, q3], p.length ≤ l.length := fun p hp => xR (hsp ▸ hp);have hq1 := hq q1 (by simp);have hq2 := hq q2 (by simp);have hq3 := hq q3 (by simp);rw [hsp] at hS1;obtain rfl : n1 = 4 := hS1.len';refine g [[3]] ?_;refine WL.yd (Yd.ix rfl rfl (hS1.addr 1 (by omega))) rfl (WL.yd (Yd.l1 rfl ((hS1.at 1 (by omega)).rd 0 (v := st q1) rfl)) rfl ?_);rcases h21 : UA q1 [120] with _ | p
      · refine WL.nf rfl (fun w hI => (zp8 q1 _ (by omega) D1 (hL.ext hX1) _ hI.imm).no (by rw [h21]; rfl)) (g [[2]] ?_);refine WP.panicBody rfl (fun w hI => ⟨_, [], (hX1), Inv.nil hI, .inr ⟨_, rfl, rfl, ?_, rfl⟩⟩);simp only [zn2]; rw [hsp]; simp_all
      skip;refine WL.cl rfl (fun w hI => (zp8 q1 _ (by omega) D1 (hL.ext hX1) _ hI.imm).ok (by rw [h21]; rfl)) (g [[12],[0,6,0,2]] ?_);refine WC.drawO [] (pz [1,3,5,7,9,15,17,19,10,12,20,22,25,27,28,31,33,34]) zk zk zX (fun _ hI => Inv.nil hI) (g [[3]] ?_);refine WA.yd rfl (Yd.ix rfl rfl (hS1.addr 2 (by omega))) rfl (WA.yd rfl (Yd.l1 rfl ((hS1.at 2 (by omega)).rd 0 (v := st q2) rfl)) rfl (g [[1]] ?_));refine WA.yd rfl (Yd.ix rfl rfl (hS1.addr 2 (by omega))) rfl (WA.yd rfl (Yd.l1 rfl ((hS1.at 3 (by omega)).rd 0 (v := st q3) rfl)) rfl ?_);refine WA.so rfl (SO.callP CaF.h rfl (fun w hI => zqT _ [118] _)) rfl (zs ⟨fun _ hI => Inv.nil hI, ?_⟩);rcases h34 : numP (Lib.trimPrefix q2 [118]) with _ | n2
      · refine WA.no rfl (SO.fail (Enters.func CaF.h rfl) (fun w hI => (Js _ (by have := zmL q2 [118]; omega) D1 (hL.ext hX1) _ hI.imm).no (by rw [h34]; rfl)) (g [[2]] ?_));refine WP.panicBody rfl (fun w hI => ⟨_, [], (hX1), Inv.nil hI, .inr ⟨_, rfl, rfl, ?_, rfl⟩⟩);simp only [zn2]; rw [hsp]; simp_all
      skip;refine WA.so rfl (SO.callP CaF.h rfl (fun w hI => (Js _ (by have := zmL q2 [118]; omega) D1 (hL.ext hX1) _ hI.imm).ok (by rw [h34]; rfl))) rfl (zs ⟨fun _ hI => Inv.nil hI, ?_⟩);refine WA.so rfl (SO.callP CaF.h rfl (fun w hI => zqT _ [116] _)) rfl (zs ⟨fun _ hI => Inv.nil hI, ?_⟩);rcases h39 : numP (Lib.trimPrefix q3 [116]) with _ | n3
      · refine WA.no rfl (SO.fail (Enters.func CaF.h rfl) (fun w hI => (Js _ (by have := zmL q3 [116]; omega) D1 (hL.ext hX1) _ hI.imm).no (by rw [h39]; rfl)) (g [[2]] ?_));refine WP.panicBody rfl (fun w hI => ⟨_, [], (hX1), Inv.nil hI, .inr ⟨_, rfl, rfl, ?_, rfl⟩⟩);simp only [zn2]; rw [hsp]; simp_all
      skip;refine WA.so rfl (SO.callP CaF.h rfl (fun w hI => (Js _ (by have := zmL q3 [116]; omega) D1 (hL.ext hX1) _ hI.imm).ok (by rw [h39]; rfl))) rfl (zs ⟨fun _ hI => Inv.nil hI, ?_⟩);refine g [[2]] ?_;refine WA.so rfl (SO.store 0 rfl SzF.h rfl rfl rfl rfl (zqb rfl) (za rfl)) rfl ?_;rintro _ _ _ ⟨rfl, rfl, rfl⟩;refine ⟨fun _ hI => Inv.nil hI, ?_⟩;refine g [[2]] ?_;refine WA.so rfl (SO.store 0 rfl SzF.h rfl rfl rfl rfl (zqb rfl) (za rfl)) rfl ?_;rintro _ _ _ ⟨rfl, rfl, rfl⟩;refine ⟨fun _ hI => Inv.nil hI, ?_⟩;refine g [[4]] ?_;refine WP.ret0 rfl rfl rfl  (fun w hI => ⟨_, _, hX1, hI, .inl ⟨_, rfl, ⟨{ x with wide := p.1, deep := p.2, speed := n2, last := n3 }, by simp only [zn2]; rw [hsp]; simp_all, M, o, hM, fun i hi => ⟨(hr i hi).1.ext hX1, (hr i hi).2⟩, ho, by show x.seen.length ≤ _; omega, rfl⟩⟩⟩)
    try simp only [zq] at g13
    refine WL.nf rfl (fun w hI => qs _ _) (g [[2]] ?_);refine WP.panicBody rfl (fun w hI => ⟨_, [], (hX1), Inv.nil hI, .inr ⟨_, rfl, rfl, ?_, rfl⟩⟩);exact zrF (by have := hS1.len'; omega)
  try simp only [zq] at c8
  obtain ⟨j, rfl⟩ : ∃ j, k = j + 1 := ⟨k - 1, by omega⟩;refine g [[2],[0,0,2]] ?_;refine WC.drawH [] zk (fun _ hI => Inv.nil hI) (WH.yd (i := 0) zk (fun _ o v c a w _ h => zm.body c o.dst v a w h) rfl (Yd.move rfl) rfl ?_);refine WH.yd (i := 1) zk (fun _ o v c a w _ h => zm.body c o.dst v a w h) rfl (Yd.move rfl) rfl (WH.yd (i := 2) zk (fun _ o v c a w _ h => zm.body c o.dst v a w h) rfl (Yd.nilCheck rfl) rfl ?_);refine WH.yd (i := 3) zk (fun _ o v c a w _ h => zm.body c o.dst v a w h) rfl (Yd.fA rfl rfl rfl) rfl (WH.yd (i := 5) zk (fun _ o v c a w _ h => zm.body c o.dst v a w h) rfl (Yd.move rfl) rfl ?_);refine WH.yd (i := 6) zk (fun _ o v c a w _ h => zm.body c o.dst v a w h) rfl (Yd.bd rfl rfl) rfl ?_;refine WH.two (i := 4) (j := 7) zk ?_ ?_
  · refine WHo.yd rfl (Yd.l1 rfl (Rd.own (k := 0) rfl rfl)) rfl ?_;rcases h51 : znm znz l zoi with _ | c
    · refine WH.one (i := 7) zk (WHo.no rfl (SO.fail (Enters.func CaF.h rfl) (fun w hI => (znQ _ _ hl 155 _ D _ hI.imm CaF.h (fun p hp w' hH' => zph p hp D hL w' hH')).no h51) ?_));refine WP.panicBody rfl (fun w hI => ⟨_, [], (DExt.refl _ _), Inv.nil hI, .inr ⟨_, rfl, rfl, ?_, rfl⟩⟩);exact (congrArg (Option.map _) h51).trans rfl
    skip;refine WH.one (i := 7) zk (WHo.so rfl (SO.makes (Enters.func Tryz.call154 rfl) (fun w hI => (znQ _ _ hl 155 _ D _ hI.imm Tryz.call155 (fun p hp w' hH' => zph p hp D hL w' hH')).ok h51)) rfl ?_);rintro _ D1 _ ⟨hX1, ⟨a1, n1, c1, rfl, hS1⟩, rfl⟩;refine ⟨(fun _ hI => (Inv.nil hI).shrink hX1.old), ?_⟩;refine WH.one (i := 8) zk (WHo.so rfl (SO.buildSlice1 UnF.h SzF.h ZvF.h rfl rfl rfl (vs := [_]) rfl rfl rfl) rfl ?_);rintro _ _ _ ⟨b52, hb52, rfl, rfl, rfl⟩;refine ⟨(fun _ hI => (Inv.nil hI).shrink hX1.old), ?_⟩;refine WH.one (i := 9) zk (WHo.so rfl (SO.appendOwW (W := w0) hw (o := o) (len := x.seen.length) (n := 1) (xs := (M.flatMap slC)) (size := 1) [_] [_] [] rfl rfl Tryz.underlying54 Tryz.sizeOf57 Tryz.typeInfo57 Tryz.zeroValue57 rfl rfl rfl rfl ⟨rfl, .inr ⟨_, _, _, rfl, RdN.own (k := 0) (n := 1) rfl rfl⟩⟩ (za rfl) ho (by rw [zr zqP, hM]) (by omega) (by show (2 * (_ + _) + 1000) * 24 ≤ 2 ^ 48; omega) (by omega)) rfl ?_);rintro _ _ _ ⟨u1, hu1, rfl, rfl, rfl⟩;refine ⟨(fun _ hI => (Inv.nil hI).shrink hX1.old), ?_⟩;refine WH.yd (i := 10) zk (fun _ o v c a w _ h => zm.body c o.dst v a w h) rfl (Yd.nilCheck rfl) rfl (WH.yd (i := 11) zk (fun _ o v c a w _ h => zm.body c o.dst v a w h) rfl (Yd.fA rfl rfl rfl) rfl ?_);refine WH.one (i := 12) zk (WHo.so rfl (SO.store 0 rfl SzF.h rfl rfl rfl rfl (zqb rfl) (za rfl)) rfl ?_);rintro _ _ _ ⟨rfl, rfl, rfl⟩;refine ⟨(fun _ hI => (Inv.nil hI).shrink hX1.old), ?_⟩;refine WH.nil zk ?_;refine WP.ret0 rfl rfl rfl  (fun w hI => ⟨_, _, hX1, hI, .inl ⟨_, rfl, ⟨{ x with seen := x.seen ++ [c] }, (congrArg (Option.map _) h51).trans rfl, M ++ [⟨a1, n1, c1⟩], some u1, by simp [hM], zqO hM (fun i hi => ⟨(hr i hi).1.ext hX1, (hr i hi).2⟩) hS1 (by have := zo3 h51; have := hS1.len'; show n1 ≤ _; omega), by simpa using hu1, by simp; omega, by show _ = (b, Obj.cells (List.toArray [it x.wide, it x.deep, it x.speed, it x.last, owV (some u1) (x.seen ++ [_]).length]) _ _) :: owH (some u1) _ ((M ++ [_]).flatMap slC) []; rw [List.flatMap_append, List.length_append]; rfl⟩⟩⟩)
  rcases h51 : znm znz l zoi with _ | c
  · refine WHo.no rfl (SO.fail (Enters.func CaF.h rfl) (fun w hI => (znQ _ _ hl 155 _ D _ hI.imm CaF.h (fun p hp w' hH' => zph p hp D hL w' hH')).no h51) ?_);refine WP.panicBody rfl (fun w hI => ⟨_, [], (DExt.refl _ _), Inv.nil hI, .inr ⟨_, rfl, rfl, ?_, rfl⟩⟩);exact (congrArg (Option.map _) h51).trans rfl
  skip;refine WHo.so rfl (SO.makes (Enters.func Tryz.call154 rfl) (fun w hI => (znQ _ _ hl 155 _ D _ hI.imm Tryz.call155 (fun p hp w' hH' => zph p hp D hL w' hH')).ok h51)) rfl ?_;rintro _ D1 _ ⟨hX1, ⟨a1, n1, c1, rfl, hS1⟩, rfl⟩;refine ⟨(fun _ hI => (Inv.nil hI).shrink hX1.old), ?_⟩;refine WH.two (i := 4) (j := 8) zk ?_ ?_
  · refine WHo.yd rfl (Yd.l1 rfl (Rd.own (k := 0) rfl rfl)) rfl ?_;refine WH.one (i := 8) zk (WHo.so rfl (SO.buildSlice1 UnF.h SzF.h ZvF.h rfl rfl rfl (vs := [_]) rfl rfl rfl) rfl ?_);rintro _ _ _ ⟨b52, hb52, rfl, rfl, rfl⟩;refine ⟨(fun _ hI => (Inv.nil hI).shrink hX1.old), ?_⟩;refine WH.one (i := 9) zk (WHo.so rfl (SO.appendOwW (W := w0) hw (o := o) (len := x.seen.length) (n := 1) (xs := (M.flatMap slC)) (size := 1) [_] [_] [] rfl rfl Tryz.underlying54 Tryz.sizeOf57 Tryz.typeInfo57 Tryz.zeroValue57 rfl rfl rfl rfl ⟨rfl, .inr ⟨_, _, _, rfl, RdN.own (k := 0) (n := 1) rfl rfl⟩⟩ (za rfl) ho (by rw [zr zqP, hM]) (by omega) (by show (2 * (_ + _) + 1000) * 24 ≤ 2 ^ 48; omega) (by omega)) rfl ?_);rintro _ _ _ ⟨u1, hu1, rfl, rfl, rfl⟩;refine ⟨(fun _ hI => (Inv.nil hI).shrink hX1.old), ?_⟩;refine WH.yd (i := 10) zk (fun _ o v c a w _ h => zm.body c o.dst v a w h) rfl (Yd.nilCheck rfl) rfl (WH.yd (i := 11) zk (fun _ o v c a w _ h => zm.body c o.dst v a w h) rfl (Yd.fA rfl rfl rfl) rfl ?_);refine WH.one (i := 12) zk (WHo.so rfl (SO.store 0 rfl SzF.h rfl rfl rfl rfl (zqb rfl) (za rfl)) rfl ?_);rintro _ _ _ ⟨rfl, rfl, rfl⟩;refine ⟨(fun _ hI => (Inv.nil hI).shrink hX1.old), ?_⟩;refine WH.nil zk ?_;refine WP.ret0 rfl rfl rfl  (fun w hI => ⟨_, _, hX1, hI, .inl ⟨_, rfl, ⟨{ x with seen := x.seen ++ [c] }, (congrArg (Option.map _) h51).trans rfl, M ++ [⟨a1, n1, c1⟩], some u1, by simp [hM], zqO hM (fun i hi => ⟨(hr i hi).1.ext hX1, (hr i hi).2⟩) hS1 (by have := zo3 h51; have := hS1.len'; show n1 ≤ _; omega), by simpa using hu1, by simp; omega, by show _ = (b, Obj.cells (List.toArray [it x.wide, it x.deep, it x.speed, it x.last, owV (some u1) (x.seen ++ [_]).length]) _ _) :: owH (some u1) _ ((M ++ [_]).flatMap slC) []; rw [List.flatMap_append, List.length_append]; rfl⟩⟩⟩)
  refine WHo.so rfl (SO.buildSlice1 UnF.h SzF.h ZvF.h rfl rfl rfl (vs := [_]) rfl rfl rfl) rfl ?_;rintro _ _ _ ⟨b52, hb52, rfl, rfl, rfl⟩;refine ⟨(fun _ hI => (Inv.nil hI).shrink hX1.old), ?_⟩;refine WH.one (i := 4) zk (WHo.yd rfl (Yd.l1 rfl (Rd.own (k := 1) rfl rfl)) rfl ?_);refine WH.one (i := 9) zk (WHo.so rfl (SO.appendOwW (W := w0) hw (o := o) (len := x.seen.length) (n := 1) (xs := (M.flatMap slC)) (size := 1) [_] [_] [] rfl rfl Tryz.underlying54 Tryz.sizeOf57 Tryz.typeInfo57 Tryz.zeroValue57 rfl rfl rfl rfl ⟨rfl, .inr ⟨_, _, _, rfl, RdN.own (k := 0) (n := 1) rfl rfl⟩⟩ (za rfl) ho (by rw [zr zqP, hM]) (by omega) (by show (2 * (_ + _) + 1000) * 24 ≤ 2 ^ 48; omega) (by omega)) rfl ?_);rintro _ _ _ ⟨u1, hu1, rfl, rfl, rfl⟩;refine ⟨(fun _ hI => (Inv.nil hI).shrink hX1.old), ?_⟩;refine WH.yd (i := 10) zk (fun _ o v c a w _ h => zm.body c o.dst v a w h) rfl (Yd.nilCheck rfl) rfl (WH.yd (i := 11) zk (fun _ o v c a w _ h => zm.body c o.dst v a w h) rfl (Yd.fA rfl rfl rfl) rfl ?_);refine WH.one (i := 12) zk (WHo.so rfl (SO.store 0 rfl SzF.h rfl rfl rfl rfl (zqb rfl) (za rfl)) rfl ?_);rintro _ _ _ ⟨rfl, rfl, rfl⟩;refine ⟨(fun _ hI => (Inv.nil hI).shrink hX1.old), ?_⟩;refine WH.nil zk ?_;refine WP.ret0 rfl rfl rfl  (fun w hI => ⟨_, _, hX1, hI, .inl ⟨_, rfl, ⟨{ x with seen := x.seen ++ [c] }, (congrArg (Option.map _) h51).trans rfl, M ++ [⟨a1, n1, c1⟩], some u1, by simp [hM], zqO hM (fun i hi => ⟨(hr i hi).1.ext hX1, (hr i hi).2⟩) hS1 (by have := zo3 h51; have := hS1.len'; show n1 ≤ _; omega), by simpa using hu1, by simp; omega, by show _ = (b, Obj.cells (List.toArray [it x.wide, it x.deep, it x.speed, it x.last, owV (some u1) (x.seen ++ [_]).length]) _ _) :: owH (some u1) _ ((M ++ [_]).flatMap slC) []; rw [List.flatMap_append, List.length_append]; rfl⟩⟩⟩)
theorem zyL {r : Bs} {j : Nat} (h : Lib.indexByte r 10 = (j : Int)) : lnsB [] r = r.take (j + 1) :: lnsB [] (r.drop (j + 1)) := by
  obtain ⟨h1, h2, h3, h4⟩ := zsP h
  have hf : flat (r.take j) := fun hm => by
    rw [← h2] at hm;have := List.all_eq_true.1 List.all_takeWhile _ hm;simp at this
  have h5 := zpE (r.take j) [] (r.drop (j + 1)) hf;rw [← h4] at h5
  have h6 : (r.take j ++ 10 :: r.drop (j + 1)).take (j + 1) = r.take j ++ [10] := by
    have hl : (r.take j).length = j := by rw [List.length_take]; omega
    rw [List.take_append, List.take_of_length_le (by omega), hl, show j + 1 - j = 1 by omega]; rfl
  rw [← h4] at h6;rw [h5, List.nil_append, h6]
theorem zsV : ∀ (r acc : Bs), (10 : UInt8) ∉ r → acc ++ r ≠ [] → lnsB acc r = [acc ++ r]
  | [], acc, _, h => by
    rw [List.append_nil] at h ⊢;rw [lnsB, if_neg h]
  | c :: r, acc, h, _ => by
    rw [lnsB, if_neg (fun e => h (by simp [e])), zsV r (acc ++ [c]) (fun hm => h (by simp [hm])) (by simp)];simp
theorem zyM {r : Bs} (h : Lib.indexByte r 10 = -1) (h0 : r ≠ []) : lnsB [] r = r :: lnsB [] [] := by
  rw [zsV r [] (zuz h).2.2 (by simpa using h0)];rfl
theorem zr3 {α : Type} [Inhabited α] {l r : List α} {k : Nat} {x : α} (h : l.drop k = x :: r) : k < l.length ∧ gt l k = x ∧ l.drop (k + 1) = r := by
  have hk : k < l.length := by
    rcases Nat.lt_or_ge k l.length with h1 | h1
    · exact h1
    rw [List.drop_of_length_le h1] at h; cases h
  rw [List.drop_eq_getElem_cons hk] at h;cases h
  exact ⟨hk, by simp [gt, List.getD, hk], rfl⟩
theorem WP.againI {x : Cx} {fr : Fr} {D : Imm} {hp : Hp} {Q : Exit → Act → World → Prop} {α : Type} {F : α → Fr} {H : α → Hp} {I : α → Imm} {φ : α → Prop} {m : α → Nat} {k : Nat} (z : α) (hz : φ z) (hm : m z < k) (hf : subB (F z) fr) (hhp : hp = H z) (hD : D = I z) :
    WP x fr D hp .normal (Exit.then (fun a w => ∃ z, φ z ∧ m z < k ∧ At x (F z) (I z) (H z) a w) Q) := WP.mk fun a w h => ⟨z, hz, hm, by subst hhp; subst hD; exact y4 h hf⟩
theorem zrZ (s : Bs) (hs : s.length ≤ 2 ^ 20) (bs : Nat) (D : Imm) (w : World) : zc2 Tryz.prog 232 [pt bs] (lnsB [] s).length (fun k => st (gt (lnsB [] s) k)) D [(bs, .cells (List.toArray [st s]) 9 (0, 0))] w := by
  intro l St C hm hround h0 hS0 hI;unfold V4;refine en Tryz.func232 rfl Tryz.ntmps232 hI (g [[1]] ?_);refine WC.loop (fun y : Nat × Bs × Imm × Hp => [(0, .func (.yield l) #[] #[]), (1, pt bs)]) (fun y => (bs, .cells (List.toArray [st y.2.1]) 9 (0, 0)) :: y.2.2.2) (fun y => y.2.2.1) (fun y => y.1 ≤ (lnsB [] s).length ∧ (lnsB [] s).drop y.1 = lnsB [] y.2.1 ∧ y.2.1.length ≤ 2 ^ 20 ∧ DExt w D y.2.2.1 ∧ St y.1 y.2.2.1 y.2.2.2) (fun y => y.2.1.length) (0, s, D, h0) ⟨Nat.zero_le _, rfl, hs, DExt.refl _ _, hS0⟩ (fun a w' hA => ⟨hA.f.weaken (x8 ⟨rfl, rfl, trivial⟩), hA.i⟩) ?_;rintro ⟨k, r, D1, h1⟩ ⟨hkn, hk, hr, hX, hS⟩;dsimp only at hkn hk hr hX hS;refine g [[2],[2,0,1]] ?_;refine WL.yd (Yd.lenStr rfl Tryz.underlying9 rfl) rfl (g [[3]] ?_);refine WC.cond rfl (fun c7 => ?_) (fun c7 => ?_)
  · try simp only [zq] at c7
    have hr0 : r ≠ [] := fun e => by subst e; simp at c7
    have hrp : 0 < r.length := List.length_pos_iff.2 hr0;refine g [[4],[6,0,1],[2,3,0,1]] ?_;refine WL.cl rfl (fun w hI => zAz r 10 _) (g [[4],[5,4,3,0,1]] ?_);refine WC.cond rfl (fun c11 => ?_) (fun c11 => ?_)
    · try simp only [zq] at c11
      obtain ⟨j, hj⟩ : ∃ j : Nat, Lib.indexByte r 10 = (j : Int) := ⟨(Lib.indexByte r 10).toNat, by omega⟩;have hjr := (zsP hj).1;obtain ⟨hkN, hgk, hk2⟩ := zr3 (hk.trans (zyL hj));refine WC.know 4 (nt j) rfl (by rw [hj]) (g [[0,4,3,0,1]] ?_);refine WC.drawH [] zk (fun _ hI => Inv.nil hI) (g [[1001]] ?_);refine WH.yd (i := 2) zk zX rfl (Yd.add rfl rfl (wr64 ⟨by (try dsimp only); omega, by (try dsimp only); omega⟩)) rfl (g [[1005]] ?_);refine WH.yd (i := 6) zk zX rfl (Yd.add rfl rfl (wr64 ⟨by (try dsimp only); omega, by (try dsimp only); omega⟩)) rfl ?_;refine WH.two (i := 0) (j := 4) zk ?_ ?_
      · refine WHo.yd rfl (Yd.l1 rfl (Rd.own (k := 0) rfl rfl)) rfl ?_;refine WH.know 14 (nt (j + 1)) rfl (by simp) ?_;refine WH.yd (i := 3) zk zX rfl (Yd.sliceToS Tryz.underlying9 rfl rfl (by (try dsimp only); omega)) rfl (g [[1008]] ?_);refine WH.one (i := 4) zk (WHo.yd rfl (Yd.l1 rfl (Rd.own (k := 0) rfl rfl)) rfl ?_);refine WH.know 18 (nt (j + 1)) rfl (by simp) ?_;refine WH.yd (i := 7) zk zX rfl (Yd.sliceFromS Tryz.underlying9 rfl rfl (by (try dsimp only); omega)) rfl ?_;refine WH.one (i := 9) zk (WHo.so rfl (SO.store 0 rfl SzF.h rfl rfl rfl rfl (zqb rfl) (za rfl)) rfl ?_);rintro _ _ _ ⟨rfl, rfl, rfl⟩;refine ⟨(fun _ hI => Inv.nil hI), ?_⟩;refine WH.nil zk (g [[2],[0,3,0,1]] ?_);refine WC.ofF (g [[3]] ?_);refine WLF.yieldP [(bs, _)] h1 (fun _ h => h) (fun h => h) rfl rfl rfl (fun w' hsz hI' => by have h9 := hround k D1 h1 w' hkN hsz hX hS hI'; dsimp only at h9; rw [hgk] at h9; exact h9) ?_ ?_
        · intro D2 h2 hS2 hX2;refine g [[6]] ?_;exact WP.againI (k + 1, r.drop (j + 1), D2, h2) ⟨hkN, hk2, by simp <;> omega, hX.trans hX2 (Nat.le_refl _), hS2⟩ (by simp <;> omega) ⟨rfl, rfl, trivial⟩ rfl rfl
        intro ch D2 h2 hC hX2;refine g [[4]] ?_;refine WP.panicBody rfl (fun w' hI => ⟨D2, h2, hX.trans hX2 (Nat.le_refl _), hI.tail, .inr ⟨_, rfl, hC⟩⟩)
      refine WHo.yd rfl (Yd.l1 rfl (Rd.own (k := 0) rfl rfl)) rfl ?_;refine WH.know 18 (nt (j + 1)) rfl (by simp) ?_;refine WH.yd (i := 7) zk zX rfl (Yd.sliceFromS Tryz.underlying9 rfl rfl (by (try dsimp only); omega)) rfl ?_;refine WH.one (i := 0) zk (WHo.yd rfl (Yd.l1 rfl (Rd.own (k := 0) rfl rfl)) rfl ?_);refine WH.know 14 (nt (j + 1)) rfl (by simp) ?_;refine WH.yd (i := 3) zk zX rfl (Yd.sliceToS Tryz.underlying9 rfl rfl (by (try dsimp only); omega)) rfl (g [[1008]] ?_);refine WH.one (i := 9) zk (WHo.so rfl (SO.store 0 rfl SzF.h rfl rfl rfl rfl (zqb rfl) (za rfl)) rfl ?_);rintro _ _ _ ⟨rfl, rfl, rfl⟩;refine ⟨(fun _ hI => Inv.nil hI), ?_⟩;refine WH.nil zk (g [[2],[0,3,0,1]] ?_);refine WC.ofF (g [[3]] ?_);refine WLF.yieldP [(bs, _)] h1 (fun _ h => h) (fun h => h) rfl rfl rfl (fun w' hsz hI' => by have h9 := hround k D1 h1 w' hkN hsz hX hS hI'; dsimp only at h9; rw [hgk] at h9; exact h9) ?_ ?_
      · intro D2 h2 hS2 hX2;refine g [[6]] ?_;exact WP.againI (k + 1, r.drop (j + 1), D2, h2) ⟨hkN, hk2, by simp <;> omega, hX.trans hX2 (Nat.le_refl _), hS2⟩ (by simp <;> omega) ⟨rfl, rfl, trivial⟩ rfl rfl
      intro ch D2 h2 hC hX2;refine g [[4]] ?_;refine WP.panicBody rfl (fun w' hI => ⟨D2, h2, hX.trans hX2 (Nat.le_refl _), hI.tail, .inr ⟨_, rfl, hC⟩⟩)
    try simp only [zq] at c11
    have hge := Lib.indexByte_ge r 10;obtain ⟨hkN, hgk, hk2⟩ := zr3 (hk.trans (zyM (by omega) hr0));refine g [[7,3,0,1],[0,3,0,1]] ?_;refine WC.ofF (g [[3]] ?_);refine WLF.yieldP [(bs, _)] h1 (fun _ h => h) (fun h => h) rfl rfl rfl (fun w' hsz hI' => by have h9 := hround k D1 h1 w' hkN hsz hX hS hI'; dsimp only at h9; rw [hgk] at h9; exact h9) ?_ ?_
    · intro D2 h2 hS2 hX2;refine g [[6]] ?_;exact WP.againI (k + 1, [], D2, h2) ⟨hkN, hk2, by simp <;> omega, hX.trans hX2 (Nat.le_refl _), hS2⟩ (by simp <;> omega) ⟨rfl, rfl, trivial⟩ rfl rfl
    intro ch D2 h2 hC hX2;refine g [[4]] ?_;refine WP.panicBody rfl (fun w' hI => ⟨D2, h2, hX.trans hX2 (Nat.le_refl _), hI.tail, .inr ⟨_, rfl, hC⟩⟩)
  try simp only [zq] at c7
  obtain rfl : r = [] := List.length_eq_zero_iff.1 (by omega);refine g [[4]] ?_;refine WP.ret0 rfl rfl rfl  (fun w' hI => ⟨D1, h1, hX, hI.tail, .inl ⟨_, rfl, (by have h1 := congrArg List.length hk; rw [List.length_drop, show (lnsB [] []).length = 0 from rfl] at h1; omega : k = (lnsB [] s).length) ▸ hS⟩⟩)
theorem zs1 (s : Bs) : (lns s).length = (lnsB [] s).length := by simp [lns]
theorem zAs {s : Bs} {k : Nat} (h : k < (lnsB [] s).length) : gt (lns s) k = Lib.trimSuffix (gt (lnsB [] s) k) [10] := by
  simp [gt, List.getD, lns, List.getElem?_map, List.getElem?_eq_getElem h]
theorem zqA : ∀ (s acc : Bs), ∀ l ∈ lnsB acc s, l.length ≤ acc.length + s.length
  | [], acc, l, h => by
    rw [lnsB] at h;split at h
    · cases h
    simp at h; simp [h]
  | c :: r, acc, l, h => by
    rw [lnsB] at h;split at h
    · rcases List.mem_cons.1 h with rfl | h
      · simp
      have := zqA r [] l h; simp at this ⊢; omega
    have := zqA r (acc ++ [c]) l h; simp at this ⊢; omega
theorem zqz : ∀ (s acc : Bs), (lnsB acc s).length ≤ s.length + 1
  | [], acc => by rw [lnsB]; split <;> simp
  | c :: r, acc => by
    rw [lnsB]; split
    · have := zqz r []; simp; omega
    have := zqz r (acc ++ [c]); simp; omega
theorem zwG (s : Bs) (D : Imm) (w : World) (hH : Holds D w) : News Tryz.prog 200 [st s] w D (fun v D' h' => D = D' ∧ ∃ b, v = .func (.func 232) #[] #[pt b] ∧ h' = [(b, .cells (List.toArray [st s]) 9 (0, 0))]) := by
  unfold News;refine en Tryz.func200 rfl Tryz.ntmps200 (Inv.start hH) (g [[1],[1,0]] ?_);refine WL.so (SO.box rfl rfl) rfl (zw fun b1 hb1 => ?_);refine g [[4],[6,2,1]] ?_;refine WP.ret1 rfl rfl rfl (RV.tmp rfl) (fun w1 hI => ⟨_, D, _, rfl, DExt.refl _ _, hI, rfl, b1, rfl, rfl⟩)
theorem zs0 (s : Bs) (D : Imm) (w : World) (hH : Holds D w) : News Tryz.prog 157 [st s] w D (fun v D' h' => D = D' ∧ ∃ b, v = .func (.func 199) #[] #[pt b] ∧ h' = [(b, .cells (List.toArray [st s]) 9 (0, 0))]) := by
  unfold News;refine en Tryz.func157 rfl Tryz.ntmps157 (Inv.start hH) (g [[1],[1,0]] ?_);refine WL.so (SO.box rfl rfl) rfl (zw fun b1 hb1 => ?_);refine g [[4],[6,2,1]] ?_;refine WP.ret1 rfl rfl rfl (RV.tmp rfl) (fun w1 hI => ⟨_, D, _, rfl, DExt.refl _ _, hI, rfl, b1, rfl, rfl⟩)
theorem zoO (s : Bs) (hs : s.length ≤ 2 ^ 20) (bt : Nat) (D : Imm) (w : World) : zc2 Tryz.prog 199 [pt bt] (lns s).length (fun k => st (gt (lns s) k)) D [(bt, .cells (List.toArray [st s]) 9 (0, 0))] w := by
  intro l St C hm hround h0 hS0 hI;unfold V4;refine enN Tryz.func199 rfl Tryz.ntmps199 hI (g [[2],[1,0,1]] ?_);refine WL.so (SO.box rfl rfl) rfl (zw fun b2 hb2 => ?_);refine g [[4],[2,2,1]] ?_;refine WL.so (SO.newsF (Enters.func CaF.h rfl) (fun w hI => zwG s D w hI.imm)) rfl ?_;rintro _ _ _ ⟨_, hX0, ⟨rfl, bl, rfl, rfl⟩, rfl⟩;refine g [[3],[0,5,2,1]] ?_;refine WCn.rangeIterP (gf := 232) (lb := [pt bl]) (N := (lnsB [] s).length) (arg := fun k => st (gt (lnsB [] s) k)) [(bl, .cells (List.toArray [st s]) 9 (0, 0))] ((b2, .cells (List.toArray [.func (.yield l) #[] #[]]) 324 (0, 0)) :: (bt, .cells (List.toArray [st s]) 9 (0, 0)) :: h0) rfl Tryz.func199 (fun w' _ _ => zrZ s hs bl D w') rfl Tryz.call232 rfl (fun k D' h => ∃ h1, h = (b2, .cells (List.toArray [.func (.yield l) #[] #[]]) 324 (0, 0)) :: (bt, .cells (List.toArray [st s]) 9 (0, 0)) :: h1 ∧ St k D' h1) C (fun k D1 D2 h hX ⟨h1, e, hS⟩ => ⟨h1, e, hm k D1 D2 h1 hX hS⟩) ⟨h0, rfl, hS0⟩ ?_ ?_ ?_
  · rintro rec l2 Dn k D1 _ w1 hrec hkN ⟨h1, rfl, hS⟩ hX hsz;unfold qy;refine g [[3,6,2]] ?_;refine WP.iterBegin 0 rfl hrec (g [[2],[0,3,2]] ?_);refine WCF.tail 3 [0, 1, 2] rfl zk zk (noLets.then (noLets.blk noLets.roundP)) (g [[2]] ?_);refine WQ.q rfl (Qt.callP CaF.h rfl (fun w hI => zvM _ [10] (by have h1 := zqA s [] _ (Ky hkN); rw [List.length_nil] at h1; omega) _)) rfl ?_;refine WQ.tailR ?_;refine WLF.yieldP [(l2, _), (Dn, _), (b2, _), (bt, _)] h1 (fun _ h => h) (fun h => h) rfl rfl rfl (fun w' hsz' hI' => by have h9 := hround k D1 h1 w' (by rw [zs1]; exact hkN) (Nat.le_trans hsz hsz') hX hS hI'; dsimp only at h9; rw [zAs hkN] at h9; exact h9) ?_ ?_
    · intro D2 h2 hS2 hX2;refine g [[3]] ?_;refine WCF.condF rfl (g [[2]] ?_);exact WP.iterOnP hrec (pre := [(Dn, _)]) (h1 := (b2, _) :: (bt, _) :: h2) (fun _ h => h) (fun h => h) hX2 ⟨h2, rfl, hS2⟩
    intro ch D2 h2 hC hX2;refine g [[2]] ?_;exact WP.iterPanic (pre := [(Dn, _)]) rfl zU1 zU2 hX2 hC
  · rintro Dn D2 _ hsz hX2 ⟨h2, rfl, hS2⟩;refine g [[1]] ?_;refine WP.retMs [Dn] h2 [] [] rfl rfl zU1 zU2 rfl trivial (fun w' hI => ⟨D2, h2, hX2, hI, .inl ⟨_, rfl, by rw [zs1]; exact hS2⟩⟩)
  rintro Dn ch D2 h2 hsz hX2 hC;refine g [[1]] ?_;refine WP.panicMs [Dn] h2 rfl zU1 zU2 (fun w' hI => ⟨D2, h2, hX2, hI, .inr ⟨_, rfl, hC⟩⟩)
theorem zuM {s l : Bs} (h : l ∈ lns s) : l.length ≤ s.length := by
  unfold lns at h;obtain ⟨a, ha, rfl⟩ := List.mem_map.1 h;have h1 := zqA s [] a ha;have h2 := znI a [10];rw [List.length_nil] at h1; omega
theorem zoP (s : Bs) : (lns s).length ≤ s.length + 1 := by rw [zs1]; exact zqz s []
theorem zpz {X : Type} {take : X → Nat → Bs → Option X} : ∀ (a b : List Bs) (x : X) (k : Nat), zmX take x k (a ++ b) = (zmX take x k a).bind fun y => zmX take y (k + a.length) b
  | [], b, x, k => by simp [zmX]
  | l :: a, b, x, k => by
    rw [List.cons_append, zmX, zmX];cases take x k l with
    | none => rfl
    | some y => simp only [zpz a b y (k + 1), List.length_cons]; congr 1; funext z; congr 1; omega
section
variable {X : Type} {take : X → Nat → Bs → Option X}
include X take
theorem zoM {z x y : X} {ls : List Bs} {k : Nat} (hk : k < ls.length) (h : zmX take z 0 (ls.take k) = some x) (h2 : take x k (gt ls k) = some y) : zmX take z 0 (ls.take (k + 1)) = some y := by
  have e : gt ls k = ls[k] := by simp [gt, List.getD, hk]
  rw [List.take_succ_eq_append_getElem hk, zpz, h, ← e, List.length_take, Nat.min_eq_left (by omega), Option.bind_some, zmX, Nat.zero_add, h2]; rfl
theorem zoL {z x : X} {ls : List Bs} {k : Nat} (hk : k < ls.length) (h : zmX take z 0 (ls.take k) = some x) (h2 : take x k (gt ls k) = none) : zmX take z 0 ls = none := by
  have e : gt ls k = ls[k] := by simp [gt, List.getD, hk]
  have h3 : ls = ls.take k ++ ls[k] :: ls.drop (k + 1) := by rw [← List.drop_eq_getElem_cons hk, List.take_append_drop]
  rw [h3, zpz, h, ← e, List.length_take, Nat.min_eq_left (by omega), Option.bind_some, zmX, Nat.zero_add, h2]
end
def TryE {α : Type} (f : FuncId) (vals : List Value) (w : World) (D : Imm) (r : α × Int) (φ : α → Value → Imm → Prop) : Prop := Calls Tryz.prog f vals.toArray w fun e w' =>
  (∃ x v D', r = (x, 0) ∧ e = .returned v ∧ Keep [] w w' ∧ Holds D' w' ∧ DExt w D D' ∧ φ x v D') ∨ ∃ z c, r = (z, c) ∧ c ≠ 0 ∧ e = .panicked (znX c) ∧ Keep [] w w'
section
variable {X : Type} {z : X} {take : X → Nat → Bs → Option X} {is : X → Bool} {put : X → Bs} {s : Bs}
include X z take is put s
theorem zoW (h : 1200 < s.length) : zmY z take is put s = (z, 3) := by unfold zmY; rw [if_pos h]
theorem zoX (h : s.length ≤ 1200) (h2 : zmX take z 0 (lns s) = none) : zmY z take is put s = (z, 8) := by
  unfold zmY; rw [if_neg (by omega), h2]
end
section
variable {X : Type} {z x : X} {take : X → Nat → Bs → Option X} {is : X → Bool} {put : X → Bs} {s : Bs} (h : s.length ≤ 1200) (h2 : zmX take z 0 (lns s) = some x)
include X z x take is put s h h2
theorem zpK (h3 : is x = true) (h4 : put x = s) : zmY z take is put s = (x, 0) := by
  unfold zmY; rw [if_neg (by omega), h2]; simp only; rw [if_pos ⟨h3, h4⟩]
theorem znp (h3 : is x = true → put x ≠ s) : zmY z take is put s = (z, 8) := by
  unfold zmY; rw [if_neg (by omega), h2]; simp only; rw [if_neg (fun h => h3 h.1 h.2)]
end
theorem zvz {w : World} {x : Surf} {W V : Sl} {o : Option Ow} (h : owP w o x.huts.length 3) : zvy x W V o = zB5 x ⟨W, V, ⟨owAt o, x.huts.length, owCp o x.huts.length⟩⟩ := by
  unfold zvy; rw [xg (wt h)]
theorem ztp {w : World} {x : xb} {M : List Sl} {o : Option Ow} (h : owP w o x.seen.length 1) : zrG x o = zxX x ⟨⟨owAt o, x.seen.length, owCp o x.seen.length⟩, M⟩ := by
  unfold zrG; rw [xg (wt h)]
section
variable (w0 : World) (bx ba bt : Nat)
include w0 bx ba bt
theorem ztH (x : Surf) (k : Nat) (hk : k ≤ 2 ^ 20) (l : Bs) (hl : l.length ≤ 2 ^ 20) (D : Imm) {kM : Bool} (hL : LibD kM D) (hT : D bt = some (.cells (List.toArray [.func (.func 129) #[] #[], .func (.func 131) #[] #[], .func (.func 132) #[] #[]]) 151 (0, 0))) (w1 : World) (hw : w0.heap.size ≤ w1.heap.size) (h : Hp) (hS : zrs w0 bx k x D h) (hI : Inv D ((ba, .cells (List.toArray [nt k]) 3 (0, 0)) :: h) (keys ((ba, .cells (List.toArray [nt k]) 3 (0, 0)) :: h)) w1 w1) : V4 Tryz.prog 156 [st l, pt bt, pt bx, pt ba] w1 D (keys ((ba, .cells (List.toArray [nt k]) 3 (0, 0)) :: h)) (fun D' h' => ∃ x' h2, zmV x k l = some x' ∧ h' = (ba, .cells (List.toArray [nt (k + 1)]) 3 (0, 0)) :: h2 ∧ zrs w0 bx (k + 1) x' D' h2) (takeC (zmV x k l)) := by
  unfold V4;refine en Tryz.func156 rfl Tryz.ntmps156 hI (g [[1],[5,0,1,2,3]] ?_);refine WL.so (SO.altersP [(ba, _)] h (fun _ h => h) (fun h => h) (fun _ h => h) (fun _ h => h) (Enters.val CaF.h rfl rfl) (fun w' hsz hI' => ztT w0 bx x k hk l hl D hL w' (Nat.le_trans hw hsz) h hS hI') ?_) rfl ?_
  · rintro ch D2 _ ⟨rfl, hno, rfl⟩ hX2;refine g [[1]] ?_;refine WP.panicBody rfl (fun w hI => ⟨D2, [], hX2, Inv.nil hI, .inr ⟨_, rfl, rfl, hno, rfl⟩⟩)
  rintro _ D2 _ ⟨h2, hX2, ⟨x2, hx2, hS2⟩, rfl⟩;refine g [[2],[5,3]] ?_;refine WP.ret0 rfl rfl rfl  (fun w hI => ⟨D2, _, hX2, hI, .inl ⟨_, rfl, x2, h2, hx2, rfl, hS2⟩⟩)
theorem ztG (x : Flag) (k : Nat) (hk : k ≤ 2 ^ 20) (l : Bs) (hl : l.length ≤ 2 ^ 20) (D : Imm) (hL : LibD true D) (hT : D bt = some (.cells (List.toArray [.func (.func 137) #[] #[], .func (.func 138) #[] #[], .func (.func 139) #[] #[]]) 157 (0, 0))) (w1 : World) (hw : w0.heap.size ≤ w1.heap.size) (h : Hp) (hS : zr4 w0 bx k x D h) (hI : Inv D ((ba, .cells (List.toArray [nt k]) 3 (0, 0)) :: h) (keys ((ba, .cells (List.toArray [nt k]) 3 (0, 0)) :: h)) w1 w1) : V4 Tryz.prog 158 [st l, pt bt, pt bx, pt ba] w1 D (keys ((ba, .cells (List.toArray [nt k]) 3 (0, 0)) :: h)) (fun D' h' => ∃ x' h2, znw x k l = some x' ∧ h' = (ba, .cells (List.toArray [nt (k + 1)]) 3 (0, 0)) :: h2 ∧ zr4 w0 bx (k + 1) x' D' h2) (takeC (znw x k l)) := by
  unfold V4;refine en Tryz.func158 rfl Tryz.ntmps158 hI (g [[1],[5,0,1,2,3]] ?_);refine WL.so (SO.altersP [(ba, _)] h (fun _ h => h) (fun h => h) (fun _ h => h) (fun _ h => h) (Enters.val CaF.h rfl rfl) (fun w' hsz hI' => ztS w0 bx x k hk l hl D hL w' (Nat.le_trans hw hsz) h hS hI') ?_) rfl ?_
  · rintro ch D2 _ ⟨rfl, hno, rfl⟩ hX2;refine g [[1]] ?_;refine WP.panicBody rfl (fun w hI => ⟨D2, [], hX2, Inv.nil hI, .inr ⟨_, rfl, rfl, hno, rfl⟩⟩)
  rintro _ D2 _ ⟨h2, hX2, ⟨x2, hx2, hS2⟩, rfl⟩;refine g [[2],[5,3]] ?_;refine WP.ret0 rfl rfl rfl  (fun w hI => ⟨D2, _, hX2, hI, .inl ⟨_, rfl, x2, h2, hx2, rfl, hS2⟩⟩)
theorem zs2 (x : xb) (k : Nat) (hk : k ≤ 2 ^ 20) (l : Bs) (hl : l.length ≤ 2 ^ 20) (D : Imm) {kM : Bool} (hL : LibD kM D) (hT : D bt = some (.cells (List.toArray [.func (.func 150) #[] #[], .func (.func 151) #[] #[], .func (.func 152) #[] #[]]) 163 (0, 0))) (w1 : World) (hw : w0.heap.size ≤ w1.heap.size) (h : Hp) (hS : zp4 w0 bx k x D h) (hI : Inv D ((ba, .cells (List.toArray [nt k]) 3 (0, 0)) :: h) (keys ((ba, .cells (List.toArray [nt k]) 3 (0, 0)) :: h)) w1 w1) : V4 Tryz.prog 159 [st l, pt bt, pt bx, pt ba] w1 D (keys ((ba, .cells (List.toArray [nt k]) 3 (0, 0)) :: h)) (fun D' h' => ∃ x' h2, zn2 x k l = some x' ∧ h' = (ba, .cells (List.toArray [nt (k + 1)]) 3 (0, 0)) :: h2 ∧ zp4 w0 bx (k + 1) x' D' h2) (takeC (zn2 x k l)) := by
  unfold V4;refine en Tryz.func159 rfl Tryz.ntmps159 hI (g [[1],[5,0,1,2,3]] ?_);refine WL.so (SO.altersP [(ba, _)] h (fun _ h => h) (fun h => h) (fun _ h => h) (fun _ h => h) (Enters.val CaF.h rfl rfl) (fun w' hsz hI' => zsk w0 bx x k hk l hl D hL w' (Nat.le_trans hw hsz) h hS hI') ?_) rfl ?_
  · rintro ch D2 _ ⟨rfl, hno, rfl⟩ hX2;refine g [[1]] ?_;refine WP.panicBody rfl (fun w hI => ⟨D2, [], hX2, Inv.nil hI, .inr ⟨_, rfl, rfl, hno, rfl⟩⟩)
  rintro _ D2 _ ⟨h2, hX2, ⟨x2, hx2, hS2⟩, rfl⟩;refine g [[2],[5,3]] ?_;refine WP.ret0 rfl rfl rfl  (fun w hI => ⟨D2, _, hX2, hI, .inl ⟨_, rfl, x2, h2, hx2, rfl, hS2⟩⟩)
end
section
variable (s : Bs) (hs : s.length ≤ 2 ^ 20) (D : Imm)
include s hs D
theorem ztN {kM : Bool} (hL : LibD kM D) (w : World) (hH : Holds D w) : TryE 82 [.agg #[.func (.func 129) #[] #[], .func (.func 131) #[] #[], .func (.func 132) #[] #[]], st s] w D (zmY zo7 zmV zn8 zmO s) (fun x v D' => ∃ m, v = zno x m ∧ zn1 D' x m) := by
  unfold TryE;refine enN Tryz.func82 rfl Tryz.ntmps82 (Inv.start hH) (g [[2],[1,0,1]] ?_);refine WL.so (SO.box rfl rfl) rfl (zw fun b2 hb2 => ?_);refine WL.so (SO.alloc ZvF.h rfl) rfl (zw fun b4 hb4 => ?_);refine g [[4],[2,4,2,1]] ?_;refine WL.yd (Yd.lenStr rfl Tryz.underlying9 rfl) rfl (g [[1]] ?_);refine WL.part 10 rfl (fun g10 => ?_) (fun g10 => ?_)
  · try simp only [zq] at g10
    have hlen : s.length ≤ 1200 := by omega
    refine WL.cl rfl (fun w hI => zmq _ _) (g [[4],[1,4,2,1]] ?_);refine WL.so (SO.alloc ZvF.h rfl) rfl (zw fun b5 hb5 => ?_);refine g [[5],[1,5,4,2,1]] ?_;refine WL.freezeK 2 rfl (fun hn2 => ?_);have hF2 := fun o => (DExt.refl w D).add (o := o) hn2 hb2;have hL1 := hL.ext (hF2 (.cells (List.toArray [.func (.func 129) #[] #[], .func (.func 131) #[] #[], .func (.func 132) #[] #[]]) 151 (0, 0)));refine g [[1]] ?_;refine WL.so (SO.alloc ZvF.h rfl) rfl (zw fun b6 hb6 => ?_);refine g [[6],[2,6,4,2,1]] ?_;refine WL.so (SO.newsF (Enters.func CaF.h rfl) (fun w hI => zs0 s _ w hI.imm)) rfl ?_;rintro _ _ _ ⟨_, hX0, ⟨rfl, bl, rfl, rfl⟩, rfl⟩;refine g [[3],[0,14,2,4,6,1]] ?_;refine WCn.rangeIterP (gf := 199) (lb := [pt bl]) (N := (lns s).length) (arg := fun k => st (gt (lns s) k)) [(bl, .cells (List.toArray [st s]) 9 (0, 0))] ((b6, .cells (List.toArray [.func (.func 156) #[] #[pt b2, pt b4, pt b5]]) 255 (0, 0)) :: (b5, .cells (List.toArray [nt 0]) 3 (0, 0)) :: [_]) rfl Tryz.func82 (fun w' _ _ => zoO s hs bl _ w') rfl Tryz.call199 rfl (fun k D' h => ∃ x h1, h = (b6, .cells (List.toArray [.func (.func 156) #[] #[pt b2, pt b4, pt b5]]) 255 (0, 0)) :: (b5, .cells (List.toArray [nt k]) 3 (0, 0)) :: h1 ∧ zrs w b4 k x D' h1 ∧ zmX zmV zo7 0 ((lns s).take k) = some x) (fun ch _ h => ch = znX 8 ∧ zmX zmV zo7 0 (lns s) = none ∧ h = []) (fun k D1 D2 h hX ⟨x, h1, e, hS, hx⟩ => ⟨x, h1, e, hS.ext hX, hx⟩) ⟨zo7, _, rfl, ⟨⟨none, 0, 0⟩, ⟨none, 0, 0⟩, none, ⟨SlL.nil _ _, SlL.nil _ _, rfl, Nat.zero_le _, Nat.zero_le _, Nat.zero_le _, rfl⟩⟩, rfl⟩ ?_ ?_ ?_
    · rintro rec l2 Dn k D1 _ w1 hrec hkN ⟨x, h1, rfl, hS, hx⟩ hX hsz;unfold qy;refine g [[3,15,4,6]] ?_;refine WP.iterBegin 0 rfl hrec (g [[1],[3,7,4,6]] ?_);refine WLF.so (zn rfl) (SO.altersP [(l2, _), (Dn, _), (b6, _)] ((b5, .cells (List.toArray [nt k]) 3 (0, 0)) :: h1) (fun _ h => h) (fun h => h) (fun _ h => h) (fun _ h => h) (Enters.val CaF.h rfl rfl) (fun w' hsz' hI' => ztH w b4 b5 b2 x k (by have := zoP s; omega) (gt (lns s) k) (by have := zuM (Ky hkN); omega) D1 (hL1.ext hX) (hX.old _ _ (Imm.add_self _ _ _)) w' (Nat.le_trans hsz hsz') h1 hS hI') ?_) rfl ?_
      · rintro ch D2 _ ⟨rfl, hno, rfl⟩ hX2;refine g [[1]] ?_;exact WP.iterPanic (pre := [(Dn, _)]) (h1 := []) rfl zU1 zU2 hX2 ⟨rfl, zoL hkN hx hno, rfl⟩
      rintro _ D2 _ ⟨_, hX2, ⟨x2, h2, hx2, rfl, hS2⟩, rfl⟩;refine g [[2]] ?_;exact WP.iterOnP hrec (pre := [(Dn, _)]) (h1 := (b6, _) :: (b5, _) :: h2) (fun _ h => h) (fun h => h) hX2 ⟨x2, h2, rfl, hS2, zoM hkN hx hx2⟩
    · rintro Dn D2 _ hszn hX2 ⟨x, h1, rfl, hS2, hx⟩;rw [List.take_length] at hx;have hcn := zoP s;refine g [[4],[1,2,4,1]] ?_;obtain ⟨W, V, o, ⟨hW, hV, ho, hWn, hVn, hxn, rfl⟩⟩ := hS2;refine WL.freezeOw (f := hutC) (m := 3) zob [_, _, _, _] [] o 139 x.huts rfl ho rfl (fun D3 hX3 hS3 => ?_);rw [zvz ho];have hR : zn1 D3 x ⟨W, V, ⟨owAt o, x.huts.length, owCp o x.huts.length⟩⟩ := ⟨hW.ext hX3, hV.ext hX3, hS3, by show W.n ≤ _; omega, by show V.n ≤ _; omega, by show x.huts.length ≤ _; omega⟩;have hXX := hX2.trans hX3 (Nat.le_refl _);have hTT := hXX.old _ _ (Imm.add_self _ _ _);refine g [[3]] ?_;refine WL.so (SO.call (Enters.val CaF.h rfl rfl) (fun w hI => zqu x _ D3 _ hR hI.imm)) rfl (zs (g [[1]] ?_));refine WL.part 23 rfl (fun g23 => ?_) (fun g23 => ?_)
      · have hxok := qa.1 g23;refine g [[3]] ?_;refine WL.sog rfl (SO.call (Enters.val CaF.h rfl rfl) (fun w hI => zrl x _ hxok D3 (hL1.ext hXX) hR _ hI.imm)) rfl (zs (g [[1]] ?_));refine WL.ydg rfl (Yd.eqS' rfl rfl) rfl (g [[1]] ?_);refine WL.part 30 rfl (fun g30 => ?_) (fun g30 => ?_)
        · try simp only [zq] at g30
          refine WL.cl rfl (fun w hI => zmq _ _) (g [[4],[7,4]] ?_);refine WP.retMs [Dn] [(b4, _)] [_] [_] rfl rfl zU1 zU2 rfl zV (fun w' hI => .inl ⟨x, _, D3, zpK hlen hx g23 (by simpa using g30), rfl, hI.keep, hI.imm, (hF2 _).trans (hX2.trans hX3 (Nat.le_refl _)) (Nat.le_refl _), _, rfl, hR⟩)
        try simp only [zq] at g30
        refine WL.nf rfl (fun w hI => qs _ _) (g [[1]] ?_);refine WP.panicMs [Dn] [] rfl zU1 zU2 (fun w' hI => .inr ⟨zo7, 8, znp hlen hx (fun _ => by simpa using g30), by decide, rfl, hI.keep⟩)
      refine g [[7]] ?_;refine WL.nf rfl (fun w hI => qs _ _) (g [[1]] ?_);refine WP.panicMs [Dn] [] rfl zU1 zU2 (fun w' hI => .inr ⟨zo7, 8, znp hlen hx (fun h => by rw [g23] at h; cases h), by decide, rfl, hI.keep⟩)
    rintro Dn ch D2 _ hszn hX2 ⟨rfl, hno, rfl⟩;refine g [[2]] ?_;refine WP.panicMs [Dn] [] rfl zU1 zU2 (fun w' hI => .inr ⟨zo7, 8, zoX hlen hno, by decide, rfl, hI.keep⟩)
  try simp only [zq] at g10
  refine WL.nf rfl (fun w hI => qs _ _) (g [[1]] ?_);refine WP.panicMs [] [] rfl zU1 zU2 (fun w' hI => .inr ⟨zo7, 3, zoW (by omega), by decide, rfl, hI.keep⟩)
theorem ztM (hL : LibD true D) (w : World) (hH : Holds D w) : TryE 83 [.agg #[.func (.func 137) #[] #[], .func (.func 138) #[] #[], .func (.func 139) #[] #[]], st s] w D (zmY zod znw znf zmN s) (fun x v D' => ∃ m, v = znT x m ∧ znr D' x m) := by
  unfold TryE;refine enN Tryz.func83 rfl Tryz.ntmps83 (Inv.start hH) (g [[2],[1,0,1]] ?_);refine WL.so (SO.box rfl rfl) rfl (zw fun b2 hb2 => ?_);refine WL.so (SO.alloc ZvF.h rfl) rfl (zw fun b4 hb4 => ?_);refine g [[4],[2,4,2,1]] ?_;refine WL.yd (Yd.lenStr rfl Tryz.underlying9 rfl) rfl (g [[1]] ?_);refine WL.part 10 rfl (fun g10 => ?_) (fun g10 => ?_)
  · try simp only [zq] at g10
    have hlen : s.length ≤ 1200 := by omega
    refine WL.cl rfl (fun w hI => zmq _ _) (g [[4],[1,4,2,1]] ?_);refine WL.so (SO.alloc ZvF.h rfl) rfl (zw fun b5 hb5 => ?_);refine g [[5],[1,5,4,2,1]] ?_;refine WL.freezeK 2 rfl (fun hn2 => ?_);have hF2 := fun o => (DExt.refl w D).add (o := o) hn2 hb2;have hL1 := hL.ext (hF2 (.cells (List.toArray [.func (.func 137) #[] #[], .func (.func 138) #[] #[], .func (.func 139) #[] #[]]) 157 (0, 0)));refine g [[1]] ?_;refine WL.so (SO.alloc ZvF.h rfl) rfl (zw fun b6 hb6 => ?_);refine g [[6],[2,6,4,2,1]] ?_;refine WL.so (SO.newsF (Enters.func CaF.h rfl) (fun w hI => zs0 s _ w hI.imm)) rfl ?_;rintro _ _ _ ⟨_, hX0, ⟨rfl, bl, rfl, rfl⟩, rfl⟩;refine g [[3],[0,14,2,4,6,1]] ?_;refine WCn.rangeIterP (gf := 199) (lb := [pt bl]) (N := (lns s).length) (arg := fun k => st (gt (lns s) k)) [(bl, .cells (List.toArray [st s]) 9 (0, 0))] ((b6, .cells (List.toArray [.func (.func 158) #[] #[pt b2, pt b4, pt b5]]) 255 (0, 0)) :: (b5, .cells (List.toArray [nt 0]) 3 (0, 0)) :: [_]) rfl Tryz.func83 (fun w' _ _ => zoO s hs bl _ w') rfl Tryz.call199 rfl (fun k D' h => ∃ x h1, h = (b6, .cells (List.toArray [.func (.func 158) #[] #[pt b2, pt b4, pt b5]]) 255 (0, 0)) :: (b5, .cells (List.toArray [nt k]) 3 (0, 0)) :: h1 ∧ zr4 w b4 k x D' h1 ∧ zmX znw zod 0 ((lns s).take k) = some x) (fun ch _ h => ch = znX 8 ∧ zmX znw zod 0 (lns s) = none ∧ h = []) (fun k D1 D2 h hX ⟨x, h1, e, hS, hx⟩ => ⟨x, h1, e, hS.ext hX, hx⟩) ⟨zod, _, rfl, ⟨⟨none, 0, 0⟩, ⟨none, 0, 0⟩, ⟨SlL.nil _ _, SlL.nil _ _, Nat.zero_le _, Nat.zero_le _, rfl⟩⟩, rfl⟩ ?_ ?_ ?_
    · rintro rec l2 Dn k D1 _ w1 hrec hkN ⟨x, h1, rfl, hS, hx⟩ hX hsz;unfold qy;refine g [[3,15,4,6]] ?_;refine WP.iterBegin 0 rfl hrec (g [[1],[3,7,4,6]] ?_);refine WLF.so (zn rfl) (SO.altersP [(l2, _), (Dn, _), (b6, _)] ((b5, .cells (List.toArray [nt k]) 3 (0, 0)) :: h1) (fun _ h => h) (fun h => h) (fun _ h => h) (fun _ h => h) (Enters.val CaF.h rfl rfl) (fun w' hsz' hI' => ztG w b4 b5 b2 x k (by have := zoP s; omega) (gt (lns s) k) (by have := zuM (Ky hkN); omega) D1 (hL1.ext hX) (hX.old _ _ (Imm.add_self _ _ _)) w' (Nat.le_trans hsz hsz') h1 hS hI') ?_) rfl ?_
      · rintro ch D2 _ ⟨rfl, hno, rfl⟩ hX2;refine g [[1]] ?_;exact WP.iterPanic (pre := [(Dn, _)]) (h1 := []) rfl zU1 zU2 hX2 ⟨rfl, zoL hkN hx hno, rfl⟩
      rintro _ D2 _ ⟨_, hX2, ⟨x2, h2, hx2, rfl, hS2⟩, rfl⟩;refine g [[2]] ?_;exact WP.iterOnP hrec (pre := [(Dn, _)]) (h1 := (b6, _) :: (b5, _) :: h2) (fun _ h => h) (fun h => h) hX2 ⟨x2, h2, rfl, hS2, zoM hkN hx hx2⟩
    · rintro Dn D2 _ hszn hX2 ⟨x, h1, rfl, hS2, hx⟩;rw [List.take_length] at hx;have hcn := zoP s;refine g [[4],[1,2,4,1]] ?_;obtain ⟨H, S, ⟨hH1, hS1, hHn, hSn, rfl⟩⟩ := hS2;rw [show zxs x H S = zAq x ⟨H, S⟩ from rfl];have hX3 := DExt.refl w D2;have hR : znr D2 x ⟨H, S⟩ := ⟨hH1, hS1, by show H.n ≤ _; omega, by show S.n ≤ _; omega⟩;have hXX := hX2.trans hX3 (Nat.le_refl _);have hTT := hXX.old _ _ (Imm.add_self _ _ _);refine g [[3]] ?_;refine WL.so (SO.call (Enters.val CaF.h rfl rfl) (fun w hI => zqt x _ D2 _ hR hI.imm)) rfl (zs (g [[1]] ?_));refine WL.part 23 rfl (fun g23 => ?_) (fun g23 => ?_)
      · have hxok := qc.1 g23;refine g [[3]] ?_;refine WL.sog rfl (SO.call (Enters.val CaF.h rfl rfl) (fun w hI => zrk x _ hxok D2 (hL1.ext hXX) hR _ hI.imm)) rfl (zs (g [[1]] ?_));refine WL.ydg rfl (Yd.eqS' rfl rfl) rfl (g [[1]] ?_);refine WL.part 30 rfl (fun g30 => ?_) (fun g30 => ?_)
        · try simp only [zq] at g30
          refine WL.cl rfl (fun w hI => zmq _ _) (g [[4],[7,4]] ?_);refine WP.retMs [Dn] [(b4, _)] [_] [_] rfl rfl zU1 zU2 rfl zV (fun w' hI => .inl ⟨x, _, D2, zpK hlen hx g23 (by simpa using g30), rfl, hI.keep, hI.imm, (hF2 _).trans (hX2.trans hX3 (Nat.le_refl _)) (Nat.le_refl _), _, rfl, hR⟩)
        try simp only [zq] at g30
        refine WL.nf rfl (fun w hI => qs _ _) (g [[1]] ?_);refine WP.panicMs [Dn] [] rfl zU1 zU2 (fun w' hI => .inr ⟨zod, 8, znp hlen hx (fun _ => by simpa using g30), by decide, rfl, hI.keep⟩)
      refine g [[7]] ?_;refine WL.nf rfl (fun w hI => qs _ _) (g [[1]] ?_);refine WP.panicMs [Dn] [] rfl zU1 zU2 (fun w' hI => .inr ⟨zod, 8, znp hlen hx (fun h => by rw [g23] at h; cases h), by decide, rfl, hI.keep⟩)
    rintro Dn ch D2 _ hszn hX2 ⟨rfl, hno, rfl⟩;refine g [[2]] ?_;refine WP.panicMs [Dn] [] rfl zU1 zU2 (fun w' hI => .inr ⟨zod, 8, zoX hlen hno, by decide, rfl, hI.keep⟩)
  try simp only [zq] at g10
  refine WL.nf rfl (fun w hI => qs _ _) (g [[1]] ?_);refine WP.panicMs [] [] rfl zU1 zU2 (fun w' hI => .inr ⟨zod, 3, zoW (by omega), by decide, rfl, hI.keep⟩)
theorem zs9 {kM : Bool} (hL : LibD kM D) (w : World) (hH : Holds D w) : TryE 84 [.agg #[.func (.func 150) #[] #[], .func (.func 151) #[] #[], .func (.func 152) #[] #[]], st s] w D (zmY znj zn2 zmD zmu s) (fun x v D' => ∃ m, v = zmP x m ∧ zmv D' x m) := by
  unfold TryE;refine enN Tryz.func84 rfl Tryz.ntmps84 (Inv.start hH) (g [[2],[1,0,1]] ?_);refine WL.so (SO.box rfl rfl) rfl (zw fun b2 hb2 => ?_);refine WL.so (SO.alloc ZvF.h rfl) rfl (zw fun b4 hb4 => ?_);refine g [[4],[2,4,2,1]] ?_;refine WL.yd (Yd.lenStr rfl Tryz.underlying9 rfl) rfl (g [[1]] ?_);refine WL.part 10 rfl (fun g10 => ?_) (fun g10 => ?_)
  · try simp only [zq] at g10
    have hlen : s.length ≤ 1200 := by omega
    refine WL.cl rfl (fun w hI => zmq _ _) (g [[4],[1,4,2,1]] ?_);refine WL.so (SO.alloc ZvF.h rfl) rfl (zw fun b5 hb5 => ?_);refine g [[5],[1,5,4,2,1]] ?_;refine WL.freezeK 2 rfl (fun hn2 => ?_);have hF2 := fun o => (DExt.refl w D).add (o := o) hn2 hb2;have hL1 := hL.ext (hF2 (.cells (List.toArray [.func (.func 150) #[] #[], .func (.func 151) #[] #[], .func (.func 152) #[] #[]]) 163 (0, 0)));refine g [[1]] ?_;refine WL.so (SO.alloc ZvF.h rfl) rfl (zw fun b6 hb6 => ?_);refine g [[6],[2,6,4,2,1]] ?_;refine WL.so (SO.newsF (Enters.func CaF.h rfl) (fun w hI => zs0 s _ w hI.imm)) rfl ?_;rintro _ _ _ ⟨_, hX0, ⟨rfl, bl, rfl, rfl⟩, rfl⟩;refine g [[3],[0,14,2,4,6,1]] ?_;refine WCn.rangeIterP (gf := 199) (lb := [pt bl]) (N := (lns s).length) (arg := fun k => st (gt (lns s) k)) [(bl, .cells (List.toArray [st s]) 9 (0, 0))] ((b6, .cells (List.toArray [.func (.func 159) #[] #[pt b2, pt b4, pt b5]]) 255 (0, 0)) :: (b5, .cells (List.toArray [nt 0]) 3 (0, 0)) :: [_]) rfl Tryz.func84 (fun w' _ _ => zoO s hs bl _ w') rfl Tryz.call199 rfl (fun k D' h => ∃ x h1, h = (b6, .cells (List.toArray [.func (.func 159) #[] #[pt b2, pt b4, pt b5]]) 255 (0, 0)) :: (b5, .cells (List.toArray [nt k]) 3 (0, 0)) :: h1 ∧ zp4 w b4 k x D' h1 ∧ zmX zn2 znj 0 ((lns s).take k) = some x) (fun ch _ h => ch = znX 8 ∧ zmX zn2 znj 0 (lns s) = none ∧ h = []) (fun k D1 D2 h hX ⟨x, h1, e, hS, hx⟩ => ⟨x, h1, e, hS.ext hX, hx⟩) ⟨znj, _, rfl, ⟨[], none, ⟨rfl, fun i hi => absurd hi (Nat.not_lt_zero i), rfl, Nat.zero_le _, rfl⟩⟩, rfl⟩ ?_ ?_ ?_
    · rintro rec l2 Dn k D1 _ w1 hrec hkN ⟨x, h1, rfl, hS, hx⟩ hX hsz;unfold qy;refine g [[3,15,4,6]] ?_;refine WP.iterBegin 0 rfl hrec (g [[1],[3,7,4,6]] ?_);refine WLF.so (zn rfl) (SO.altersP [(l2, _), (Dn, _), (b6, _)] ((b5, .cells (List.toArray [nt k]) 3 (0, 0)) :: h1) (fun _ h => h) (fun h => h) (fun _ h => h) (fun _ h => h) (Enters.val CaF.h rfl rfl) (fun w' hsz' hI' => zs2 w b4 b5 b2 x k (by have := zoP s; omega) (gt (lns s) k) (by have := zuM (Ky hkN); omega) D1 (hL1.ext hX) (hX.old _ _ (Imm.add_self _ _ _)) w' (Nat.le_trans hsz hsz') h1 hS hI') ?_) rfl ?_
      · rintro ch D2 _ ⟨rfl, hno, rfl⟩ hX2;refine g [[1]] ?_;exact WP.iterPanic (pre := [(Dn, _)]) (h1 := []) rfl zU1 zU2 hX2 ⟨rfl, zoL hkN hx hno, rfl⟩
      rintro _ D2 _ ⟨_, hX2, ⟨x2, h2, hx2, rfl, hS2⟩, rfl⟩;refine g [[2]] ?_;exact WP.iterOnP hrec (pre := [(Dn, _)]) (h1 := (b6, _) :: (b5, _) :: h2) (fun _ h => h) (fun h => h) hX2 ⟨x2, h2, rfl, hS2, zoM hkN hx hx2⟩
    · rintro Dn D2 _ hszn hX2 ⟨x, h1, rfl, hS2, hx⟩;rw [List.take_length] at hx;have hcn := zoP s;refine g [[4],[1,2,4,1]] ?_;obtain ⟨M, o, ⟨hM, hr, ho, hxn, rfl⟩⟩ := hS2;refine WL.freezeOw (f := slC) (m := 1) zqP [_, _, _, _] [] o 57 M rfl (hM.symm ▸ ho) rfl (fun D3 hX3 hS3 => ?_);rw [ztp ho];rw [hM] at hS3;have hR : zmv D3 x ⟨⟨owAt o, x.seen.length, owCp o x.seen.length⟩, M⟩ := ⟨hS3, hM, fun i hi => (hr i hi).1.ext hX3, by show x.seen.length ≤ _; omega, fun i hi => Nat.le_trans (hr i hi).2 (zqb rfl)⟩;have hXX := hX2.trans hX3 (Nat.le_refl _);have hTT := hXX.old _ _ (Imm.add_self _ _ _);refine g [[3]] ?_;refine WL.so (SO.call (Enters.val CaF.h rfl rfl) (fun w hI => zpB x _ D3 _ hR hI.imm)) rfl (zs (g [[1]] ?_));refine WL.part 23 rfl (fun g23 => ?_) (fun g23 => ?_)
      · have hxok := ww.1 g23;refine g [[3]] ?_;refine WL.sog rfl (SO.call (Enters.val CaF.h rfl rfl) (fun w hI => zq9 x _ hxok D3 (hL1.ext hXX) hR _ hI.imm)) rfl (zs (g [[1]] ?_));refine WL.ydg rfl (Yd.eqS' rfl rfl) rfl (g [[1]] ?_);refine WL.part 30 rfl (fun g30 => ?_) (fun g30 => ?_)
        · try simp only [zq] at g30
          refine WL.cl rfl (fun w hI => zmq _ _) (g [[4],[7,4]] ?_);refine WP.retMs [Dn] [(b4, _)] [_] [_] rfl rfl zU1 zU2 rfl zV (fun w' hI => .inl ⟨x, _, D3, zpK hlen hx g23 (by simpa using g30), rfl, hI.keep, hI.imm, (hF2 _).trans (hX2.trans hX3 (Nat.le_refl _)) (Nat.le_refl _), _, rfl, hR⟩)
        try simp only [zq] at g30
        refine WL.nf rfl (fun w hI => qs _ _) (g [[1]] ?_);refine WP.panicMs [Dn] [] rfl zU1 zU2 (fun w' hI => .inr ⟨znj, 8, znp hlen hx (fun _ => by simpa using g30), by decide, rfl, hI.keep⟩)
      refine g [[7]] ?_;refine WL.nf rfl (fun w hI => qs _ _) (g [[1]] ?_);refine WP.panicMs [Dn] [] rfl zU1 zU2 (fun w' hI => .inr ⟨znj, 8, znp hlen hx (fun h => by rw [g23] at h; cases h), by decide, rfl, hI.keep⟩)
    rintro Dn ch D2 _ hszn hX2 ⟨rfl, hno, rfl⟩;refine g [[2]] ?_;refine WP.panicMs [Dn] [] rfl zU1 zU2 (fun w' hI => .inr ⟨znj, 8, zoX hlen hno, by decide, rfl, hI.keep⟩)
  try simp only [zq] at g10
  refine WL.nf rfl (fun w hI => qs _ _) (g [[1]] ?_);refine WP.panicMs [] [] rfl zU1 zU2 (fun w' hI => .inr ⟨znj, 3, zoW (by omega), by decide, rfl, hI.keep⟩)
end
theorem zBu : zj Tryz.prog 151 [.nilFunc, .nilFunc, .nilFunc] [(0, 1), (1, 1), (2, 1)] := ⟨⟨_, Tryz.zeroValue151, rfl⟩, _, Tryz.underlying151, fun w => by simp [Tryz.sizeOf58, Tryz.sizeOf148, Tryz.sizeOf149]⟩
abbrev zzI := SaF.mk zBu
attribute [instance] zzI
theorem zBv : zj Tryz.prog 157 [.nilFunc, .nilFunc, .nilFunc] [(0, 1), (1, 1), (2, 1)] := ⟨⟨_, Tryz.zeroValue157, rfl⟩, _, Tryz.underlying157, fun w => by simp [Tryz.sizeOf59, Tryz.sizeOf154, Tryz.sizeOf155]⟩
abbrev zzJ := SaF.mk zBv
attribute [instance] zzJ
theorem zBw : zj Tryz.prog 163 [.nilFunc, .nilFunc, .nilFunc] [(0, 1), (1, 1), (2, 1)] := ⟨⟨_, Tryz.zeroValue163, rfl⟩, _, Tryz.underlying163, fun w => by simp [Tryz.sizeOf60, Tryz.sizeOf160, Tryz.sizeOf161]⟩
abbrev zzK := SaF.mk zBw
attribute [instance] zzK
def wrO {X : Type} (is : X → Bool) (put : X → Bs) (x : X) : Bs × Int := if is x = true then (put x, 0) else ([], 1)
section
variable {X : Type} {is : X → Bool} {put : X → Bs} {x : X}
include X is put x
theorem zp2 (h : is x = true) : wrO is put x = (put x, 0) := if_pos h
theorem zqh (h : is x = false) : wrO is put x = ([], 1) := if_neg (by simp [h])
end
theorem SO.tryE {x : Cx} {fr : Fr} {D : Imm} {hp : Hp} {ty : TypeId} {Q : Exit → Act → World → Prop} {α : Type} {c : Call} {f : FuncId} {vals : List Value} {r : α × Int} {φ : α → Value → Imm → Prop} (he : W.Enters Tryz.prog x fr D hp c ty f vals) (hk : ∀ w, Inv D hp x.S x.w0 w → TryE f vals w D r φ) 
    (hpan : ∀ z c, r = (z, c) → c ≠ 0 → WP x fr D hp (.panic (znX c)) Q) : SO Tryz.prog x fr D hp (.call c) ty Q (fun v D' hp' => ∃ y, r = (y, 0) ∧ DExt x.w0 D D' ∧ φ y v D' ∧ hp' = hp) := SO.mk fun a w dst pos af g next hA hn => by
  unfold Oper.wp;rw [he a w dst pos af g hA.f hA.i, Oper.upon_enter];refine (hk w hA.i).mono fun e w' h => ?_;rcases h with ⟨y, v, D', h1, rfl, h3, h4, h5, h6⟩ | ⟨z, c, h1, h2, rfl, h4⟩
  · exact hn _ _ _ _ ⟨y, h1, ⟨h5.old, fun b hb => h5.new b (Nat.lt_of_lt_of_le hb hA.i.keep.size)⟩, h6, rfl⟩ (hA.i.grow h3 h4 h5)
  exact WP.un (hpan z c h1 h2) ⟨hA.f, hA.i.call h4⟩
theorem zpu (w : World) : z8 Tryz.prog 77 [] w (.agg #[.func (.func 129) #[] #[], .func (.func 131) #[] #[], .func (.func 132) #[] #[]]) := by
  unfold z8;refine en Tryz.func77 rfl Tryz.ntmps77 zI (g [[1]] ?_);refine WC.ofFr [] trivial (g [[1]] ?_);refine WL.so (SO.alloc ZvF.h rfl) rfl (zw fun b0 hb0 => ?_);refine g [[3],[6,0]] ?_;refine WP.ret1 rfl rfl rfl (RV.cellN AgF.h SzF.h rfl (vs := [_, _, _]) rfl (RdN.own (k := 0) (n := 3) rfl rfl)) (fun w hI => ⟨rfl, hI.keep⟩)
theorem zpc (x : Surf) (m : zn4) (h : zn8 x = true) (D : Imm) {kM : Bool} (hL : LibD kM D) (hR : zn1 D x m) (w : World) (hH : Holds D w) : z8 Tryz.prog 76 [.agg #[.func (.func 129) #[] #[], .func (.func 131) #[] #[], .func (.func 132) #[] #[]], zno x m] w (st (zmO x)) := by
  unfold z8;refine en Tryz.func76 rfl Tryz.ntmps76 (Inv.start hH) (g [[1],[1,0,1]] ?_);refine WL.so (SO.box rfl rfl) rfl (zw fun b2 hb2 => ?_);refine WL.so (SO.box rfl rfl) rfl (zw fun b3 hb3 => ?_);refine g [[4],[4,4,3,2]] ?_;refine WL.so (SO.call (Enters.val CaF.h rfl rfl) (fun w hI => zqu x m D _ hR hI.imm)) rfl (zs ?_);refine WL.know 8 (.bool true) rfl (congrArg Value.bool h) (WL.cl rfl (fun w hI => zmq _ _) (g [[3],[4,4,3,2]] ?_));refine WL.so (SO.call (Enters.val CaF.h rfl rfl) (fun w hI => zrl x m (qa.1 h) D hL hR _ hI.imm)) rfl (zs (g [[4]] ?_));refine WP.ret1 rfl rfl rfl (RV.tmp rfl) (fun w hI => ⟨rfl, hI.keep⟩)
theorem zpb (x : Surf) (m : zn4) (h : zn8 x = false) (D : Imm) {kM : Bool} (hL : LibD kM D) (hR : zn1 D x m) (w : World) (hH : Holds D w) : xC Tryz.prog 76 [.agg #[.func (.func 129) #[] #[], .func (.func 131) #[] #[], .func (.func 132) #[] #[]], zno x m] w (znX 1) := by
  unfold xC;refine en Tryz.func76 rfl Tryz.ntmps76 (Inv.start hH) (g [[1],[1,0,1]] ?_);refine WL.so (SO.box rfl rfl) rfl (zw fun b2 hb2 => ?_);refine WL.so (SO.box rfl rfl) rfl (zw fun b3 hb3 => ?_);refine g [[4],[4,4,3,2]] ?_;refine WL.so (SO.call (Enters.val CaF.h rfl rfl) (fun w hI => zqu x m D _ hR hI.imm)) rfl (zs ?_);refine WL.know 8 (.bool false) rfl (congrArg Value.bool h) (WL.nf rfl (fun w hI => qs _ _) (g [[1]] ?_));refine WP.panicBody rfl (fun w hI => ⟨rfl, hI.keep⟩)
theorem zrD (x : Surf) (m : zn4) (D : Imm) {kM : Bool} (hL : LibD kM D) (hR : zn1 D x m) (w : World) (hH : Holds D w) : z8 Tryz.prog 20 [zno x m] w (.tuple #[st (wrO zn8 zmO x).1, it (wrO zn8 zmO x).2]) := by
  unfold z8;refine enD Tryz.func20 rfl Tryz.ntmps20 (Inv.start hH) (g [[1],[1,0]] ?_);refine WL.so (SO.box rfl rfl) rfl (zw fun b1 hb1 => ?_);refine g [[1]] ?_;refine WL.so (SO.alloc ZvF.h rfl) rfl (zw fun b3 hb3 => ?_);refine g [[3],[1,3,2,1]] ?_;refine WL.deferA rfl (g [[3],[0,3,2,1]] ?_);refine WC.drawH [(b1, _)] zk (fun _ hI => hI.tail) ?_;refine WH.two (i := 0) (j := 1) zk ?_ ?_
  · refine WHo.so rfl (SO.callP CaF.h rfl (fun w hI => zpu _)) rfl (zs ⟨(fun _ hI => hI.tail), ?_⟩);refine WH.one (i := 1) zk (WHo.yd rfl (Yd.lV [_, _, _, _, _] rfl (RdN.own (k := 1) (n := 5) rfl rfl)) rfl ?_);rcases h6 : zn8 x with _ | _
    · refine WH.one (i := 2) zk (WHo.no rfl (SO.fail (Enters.func CaF.h rfl) (fun w hI => zpb x m h6 D hL hR _ hI.imm) (g [[1]] ?_)));refine WP.panicDA (k := 0) [_, _] [_, _] rfl CaF.h rfl (fun w hI => k5 b3 1 0 _ w (hI.own _ _ (List.mem_of_getElem? (i := 0) rfl))) rfl zV (fun w hI => ⟨congrArg Ending.returned (by rw [zqh h6]; rfl), hI.keep⟩)
    skip;refine WH.one (i := 2) zk (WHo.so rfl (SO.callP CaF.h rfl (fun w hI => zpc x m h6 D hL hR _ hI.imm)) rfl (zs ⟨(fun _ hI => hI.tail), ?_⟩));refine WH.one (i := 3) zk (WHo.yd rfl (Yd.assign rfl) rfl ?_);refine WH.one (i := 4) zk (WHo.so rfl (SO.store 0 rfl SzF.h rfl rfl rfl rfl (zqb rfl) (za rfl)) rfl ?_);rintro _ _ _ ⟨rfl, rfl, rfl⟩;refine ⟨(fun _ hI => hI.tail), ?_⟩;refine WH.nil zk (g [[2]] ?_);refine WP.endDA [_, _] [_, _] rfl rfl CaF.h (fun w hI => zmt b3 w) rfl zV (fun w hI => ⟨congrArg Ending.returned (by rw [zp2 h6]; rfl), hI.keep⟩)
  refine WHo.yd rfl (Yd.lV [_, _, _, _, _] rfl (RdN.own (k := 1) (n := 5) rfl rfl)) rfl ?_;refine WH.one (i := 0) zk (WHo.so rfl (SO.callP CaF.h rfl (fun w hI => zpu _)) rfl (zs ⟨(fun _ hI => hI.tail), ?_⟩));rcases h6 : zn8 x with _ | _
  · refine WH.one (i := 2) zk (WHo.no rfl (SO.fail (Enters.func CaF.h rfl) (fun w hI => zpb x m h6 D hL hR _ hI.imm) (g [[1]] ?_)));refine WP.panicDA (k := 0) [_, _] [_, _] rfl CaF.h rfl (fun w hI => k5 b3 1 0 _ w (hI.own _ _ (List.mem_of_getElem? (i := 0) rfl))) rfl zV (fun w hI => ⟨congrArg Ending.returned (by rw [zqh h6]; rfl), hI.keep⟩)
  skip;refine WH.one (i := 2) zk (WHo.so rfl (SO.callP CaF.h rfl (fun w hI => zpc x m h6 D hL hR _ hI.imm)) rfl (zs ⟨(fun _ hI => hI.tail), ?_⟩));refine WH.one (i := 3) zk (WHo.yd rfl (Yd.assign rfl) rfl ?_);refine WH.one (i := 4) zk (WHo.so rfl (SO.store 0 rfl SzF.h rfl rfl rfl rfl (zqb rfl) (za rfl)) rfl ?_);rintro _ _ _ ⟨rfl, rfl, rfl⟩;refine ⟨(fun _ hI => hI.tail), ?_⟩;refine WH.nil zk (g [[2]] ?_);refine WP.endDA [_, _] [_, _] rfl rfl CaF.h (fun w hI => zmt b3 w) rfl zV (fun w hI => ⟨congrArg Ending.returned (by rw [zp2 h6]; rfl), hI.keep⟩)
theorem zqM {s : Bs} {z : Surf} {c : Int} (h : zmY zo7 zmV zn8 zmO s = (z, c)) (hc : c ≠ 0) : z = zo7 := by
  unfold zmY at h;split at h
  · cases h; rfl
  split at h
  · cases h; rfl
  split at h
  · cases h; exact absurd rfl hc
  cases h; rfl
theorem ztn (s : Bs) (hs : s.length ≤ 2 ^ 20) (D : Imm) {kM : Bool} (hL : LibD kM D) (w : World) (hH : Holds D w) : y6 Tryz.prog 23 [st s] w D (fun v D' => ∃ x m c, zqL s = (x, c) ∧ v = .tuple #[zno x m, it c] ∧ zn1 D' x m) := by
  unfold y6;refine enD Tryz.func23 rfl Tryz.ntmps23 (Inv.start hH) (g [[1],[1,0]] ?_);refine WL.so (SO.alloc ZvF.h rfl) rfl (zw fun b2 hb2 => ?_);refine WL.so (SO.alloc ZvF.h rfl) rfl (zw fun b3 hb3 => ?_);refine g [[3],[1,3,2,0]] ?_;refine WL.deferA rfl (g [[3],[1,3,2,0]] ?_);refine WL.cl rfl (fun w hI => zpu _) (g [[1]] ?_);refine WL.so (SO.tryE (Enters.func CaF.h rfl) (fun w hI => ztN s hs D hL w hI.imm) ?_) rfl ?_
  · rintro z c hz hc;refine g [[1]] ?_;refine WP.panicDA (k := 0) [_, _] [_, _] rfl CaF.h rfl (fun w hI => k5 b3 c 0 _ w (hI.own _ _ (List.mem_of_getElem? (i := 0) rfl))) rfl zV (fun w hI => ⟨_, D, rfl, hI.keep, hI.imm, DExt.refl _ _, zo7, ⟨⟨none, 0, 0⟩, ⟨none, 0, 0⟩, ⟨none, 0, 0⟩⟩, c, zqM hz hc ▸ hz, rfl, ⟨SlL.nil _ _, SlL.nil _ _, SlL.nil _ _, Nat.zero_le _, Nat.zero_le _, Nat.zero_le _⟩⟩)
  rintro _ D2 _ ⟨y, hy, hX2, ⟨m, rfl, hR⟩, rfl⟩;refine g [[5]] ?_;refine WP.endDA [_, _] [_, _] rfl rfl CaF.h (fun w hI => zmt b3 w) rfl zV (fun w hI => ⟨_, D2, rfl, hI.keep, hI.imm, hX2, y, m, 0, hy, rfl, hR⟩)
theorem zpt (w : World) : z8 Tryz.prog 79 [] w (.agg #[.func (.func 137) #[] #[], .func (.func 138) #[] #[], .func (.func 139) #[] #[]]) := by
  unfold z8;refine en Tryz.func79 rfl Tryz.ntmps79 zI (g [[1]] ?_);refine WC.ofFr [] trivial (g [[1]] ?_);refine WL.so (SO.alloc ZvF.h rfl) rfl (zw fun b0 hb0 => ?_);refine g [[3],[6,0]] ?_;refine WP.ret1 rfl rfl rfl (RV.cellN AgF.h SzF.h rfl (vs := [_, _, _]) rfl (RdN.own (k := 0) (n := 3) rfl rfl)) (fun w hI => ⟨rfl, hI.keep⟩)
theorem zpa (x : Flag) (m : zmG) (h : znf x = true) (D : Imm) (hL : LibD true D) (hR : znr D x m) (w : World) (hH : Holds D w) : z8 Tryz.prog 78 [.agg #[.func (.func 137) #[] #[], .func (.func 138) #[] #[], .func (.func 139) #[] #[]], znT x m] w (st (zmN x)) := by
  unfold z8;refine en Tryz.func78 rfl Tryz.ntmps78 (Inv.start hH) (g [[1],[1,0,1]] ?_);refine WL.so (SO.box rfl rfl) rfl (zw fun b2 hb2 => ?_);refine WL.so (SO.box rfl rfl) rfl (zw fun b3 hb3 => ?_);refine g [[4],[4,4,3,2]] ?_;refine WL.so (SO.call (Enters.val CaF.h rfl rfl) (fun w hI => zqt x m D _ hR hI.imm)) rfl (zs ?_);refine WL.know 8 (.bool true) rfl (congrArg Value.bool h) (WL.cl rfl (fun w hI => zmq _ _) (g [[3],[4,4,3,2]] ?_));refine WL.so (SO.call (Enters.val CaF.h rfl rfl) (fun w hI => zrk x m (qc.1 h) D hL hR _ hI.imm)) rfl (zs (g [[4]] ?_));refine WP.ret1 rfl rfl rfl (RV.tmp rfl) (fun w hI => ⟨rfl, hI.keep⟩)
theorem zp9 (x : Flag) (m : zmG) (h : znf x = false) (D : Imm) (hL : LibD true D) (hR : znr D x m) (w : World) (hH : Holds D w) : xC Tryz.prog 78 [.agg #[.func (.func 137) #[] #[], .func (.func 138) #[] #[], .func (.func 139) #[] #[]], znT x m] w (znX 1) := by
  unfold xC;refine en Tryz.func78 rfl Tryz.ntmps78 (Inv.start hH) (g [[1],[1,0,1]] ?_);refine WL.so (SO.box rfl rfl) rfl (zw fun b2 hb2 => ?_);refine WL.so (SO.box rfl rfl) rfl (zw fun b3 hb3 => ?_);refine g [[4],[4,4,3,2]] ?_;refine WL.so (SO.call (Enters.val CaF.h rfl rfl) (fun w hI => zqt x m D _ hR hI.imm)) rfl (zs ?_);refine WL.know 8 (.bool false) rfl (congrArg Value.bool h) (WL.nf rfl (fun w hI => qs _ _) (g [[1]] ?_));refine WP.panicBody rfl (fun w hI => ⟨rfl, hI.keep⟩)
theorem zrC (x : Flag) (m : zmG) (D : Imm) (hL : LibD true D) (hR : znr D x m) (w : World) (hH : Holds D w) : z8 Tryz.prog 21 [znT x m] w (.tuple #[st (wrO znf zmN x).1, it (wrO znf zmN x).2]) := by
  unfold z8;refine enD Tryz.func21 rfl Tryz.ntmps21 (Inv.start hH) (g [[1],[1,0]] ?_);refine WL.so (SO.box rfl rfl) rfl (zw fun b1 hb1 => ?_);refine g [[1]] ?_;refine WL.so (SO.alloc ZvF.h rfl) rfl (zw fun b3 hb3 => ?_);refine g [[3],[1,3,2,1]] ?_;refine WL.deferA rfl (g [[3],[0,3,2,1]] ?_);refine WC.drawH [(b1, _)] zk (fun _ hI => hI.tail) ?_;refine WH.two (i := 0) (j := 1) zk ?_ ?_
  · refine WHo.so rfl (SO.callP CaF.h rfl (fun w hI => zpt _)) rfl (zs ⟨(fun _ hI => hI.tail), ?_⟩);refine WH.one (i := 1) zk (WHo.yd rfl (Yd.lV [_, _, _, _, _] rfl (RdN.own (k := 1) (n := 5) rfl rfl)) rfl ?_);rcases h6 : znf x with _ | _
    · refine WH.one (i := 2) zk (WHo.no rfl (SO.fail (Enters.func CaF.h rfl) (fun w hI => zp9 x m h6 D hL hR _ hI.imm) (g [[1]] ?_)));refine WP.panicDA (k := 0) [_, _] [_, _] rfl CaF.h rfl (fun w hI => k5 b3 1 0 _ w (hI.own _ _ (List.mem_of_getElem? (i := 0) rfl))) rfl zV (fun w hI => ⟨congrArg Ending.returned (by rw [zqh h6]; rfl), hI.keep⟩)
    skip;refine WH.one (i := 2) zk (WHo.so rfl (SO.callP CaF.h rfl (fun w hI => zpa x m h6 D hL hR _ hI.imm)) rfl (zs ⟨(fun _ hI => hI.tail), ?_⟩));refine WH.one (i := 3) zk (WHo.yd rfl (Yd.assign rfl) rfl ?_);refine WH.one (i := 4) zk (WHo.so rfl (SO.store 0 rfl SzF.h rfl rfl rfl rfl (zqb rfl) (za rfl)) rfl ?_);rintro _ _ _ ⟨rfl, rfl, rfl⟩;refine ⟨(fun _ hI => hI.tail), ?_⟩;refine WH.nil zk (g [[2]] ?_);refine WP.endDA [_, _] [_, _] rfl rfl CaF.h (fun w hI => zmt b3 w) rfl zV (fun w hI => ⟨congrArg Ending.returned (by rw [zp2 h6]; rfl), hI.keep⟩)
  refine WHo.yd rfl (Yd.lV [_, _, _, _, _] rfl (RdN.own (k := 1) (n := 5) rfl rfl)) rfl ?_;refine WH.one (i := 0) zk (WHo.so rfl (SO.callP CaF.h rfl (fun w hI => zpt _)) rfl (zs ⟨(fun _ hI => hI.tail), ?_⟩));rcases h6 : znf x with _ | _
  · refine WH.one (i := 2) zk (WHo.no rfl (SO.fail (Enters.func CaF.h rfl) (fun w hI => zp9 x m h6 D hL hR _ hI.imm) (g [[1]] ?_)));refine WP.panicDA (k := 0) [_, _] [_, _] rfl CaF.h rfl (fun w hI => k5 b3 1 0 _ w (hI.own _ _ (List.mem_of_getElem? (i := 0) rfl))) rfl zV (fun w hI => ⟨congrArg Ending.returned (by rw [zqh h6]; rfl), hI.keep⟩)
  skip;refine WH.one (i := 2) zk (WHo.so rfl (SO.callP CaF.h rfl (fun w hI => zpa x m h6 D hL hR _ hI.imm)) rfl (zs ⟨(fun _ hI => hI.tail), ?_⟩));refine WH.one (i := 3) zk (WHo.yd rfl (Yd.assign rfl) rfl ?_);refine WH.one (i := 4) zk (WHo.so rfl (SO.store 0 rfl SzF.h rfl rfl rfl rfl (zqb rfl) (za rfl)) rfl ?_);rintro _ _ _ ⟨rfl, rfl, rfl⟩;refine ⟨(fun _ hI => hI.tail), ?_⟩;refine WH.nil zk (g [[2]] ?_);refine WP.endDA [_, _] [_, _] rfl rfl CaF.h (fun w hI => zmt b3 w) rfl zV (fun w hI => ⟨congrArg Ending.returned (by rw [zp2 h6]; rfl), hI.keep⟩)
theorem zqK {s : Bs} {z : Flag} {c : Int} (h : zmY zod znw znf zmN s = (z, c)) (hc : c ≠ 0) : z = zod := by
  unfold zmY at h;split at h
  · cases h; rfl
  split at h
  · cases h; rfl
  split at h
  · cases h; exact absurd rfl hc
  cases h; rfl
theorem ztm (s : Bs) (hs : s.length ≤ 2 ^ 20) (D : Imm) (hL : LibD true D) (w : World) (hH : Holds D w) : y6 Tryz.prog 24 [st s] w D (fun v D' => ∃ x m c, zqJ s = (x, c) ∧ v = .tuple #[znT x m, it c] ∧ znr D' x m) := by
  unfold y6;refine enD Tryz.func24 rfl Tryz.ntmps24 (Inv.start hH) (g [[1],[1,0]] ?_);refine WL.so (SO.alloc ZvF.h rfl) rfl (zw fun b2 hb2 => ?_);refine WL.so (SO.alloc ZvF.h rfl) rfl (zw fun b3 hb3 => ?_);refine g [[3],[1,3,2,0]] ?_;refine WL.deferA rfl (g [[3],[1,3,2,0]] ?_);refine WL.cl rfl (fun w hI => zpt _) (g [[1]] ?_);refine WL.so (SO.tryE (Enters.func CaF.h rfl) (fun w hI => ztM s hs D hL w hI.imm) ?_) rfl ?_
  · rintro z c hz hc;refine g [[1]] ?_;refine WP.panicDA (k := 0) [_, _] [_, _] rfl CaF.h rfl (fun w hI => k5 b3 c 0 _ w (hI.own _ _ (List.mem_of_getElem? (i := 0) rfl))) rfl zV (fun w hI => ⟨_, D, rfl, hI.keep, hI.imm, DExt.refl _ _, zod, ⟨⟨none, 0, 0⟩, ⟨none, 0, 0⟩⟩, c, zqK hz hc ▸ hz, rfl, ⟨SlL.nil _ _, SlL.nil _ _, Nat.zero_le _, Nat.zero_le _⟩⟩)
  rintro _ D2 _ ⟨y, hy, hX2, ⟨m, rfl, hR⟩, rfl⟩;refine g [[5]] ?_;refine WP.endDA [_, _] [_, _] rfl rfl CaF.h (fun w hI => zmt b3 w) rfl zV (fun w hI => ⟨_, D2, rfl, hI.keep, hI.imm, hX2, y, m, 0, hy, rfl, hR⟩)
theorem zoK (w : World) : z8 Tryz.prog 81 [] w (.agg #[.func (.func 150) #[] #[], .func (.func 151) #[] #[], .func (.func 152) #[] #[]]) := by
  unfold z8;refine en Tryz.func81 rfl Tryz.ntmps81 zI (g [[1]] ?_);refine WC.ofFr [] trivial (g [[1]] ?_);refine WL.so (SO.alloc ZvF.h rfl) rfl (zw fun b0 hb0 => ?_);refine g [[3],[6,0]] ?_;refine WP.ret1 rfl rfl rfl (RV.cellN AgF.h SzF.h rfl (vs := [_, _, _]) rfl (RdN.own (k := 0) (n := 3) rfl rfl)) (fun w hI => ⟨rfl, hI.keep⟩)
theorem zoA (x : xb) (m : zmn) (h : zmD x = true) (D : Imm) {kM : Bool} (hL : LibD kM D) (hR : zmv D x m) (w : World) (hH : Holds D w) : z8 Tryz.prog 80 [.agg #[.func (.func 150) #[] #[], .func (.func 151) #[] #[], .func (.func 152) #[] #[]], zmP x m] w (st (zmu x)) := by
  unfold z8;refine en Tryz.func80 rfl Tryz.ntmps80 (Inv.start hH) (g [[1],[1,0,1]] ?_);refine WL.so (SO.box rfl rfl) rfl (zw fun b2 hb2 => ?_);refine WL.so (SO.box rfl rfl) rfl (zw fun b3 hb3 => ?_);refine g [[4],[4,4,3,2]] ?_;refine WL.so (SO.call (Enters.val CaF.h rfl rfl) (fun w hI => zpB x m D _ hR hI.imm)) rfl (zs ?_);refine WL.know 8 (.bool true) rfl (congrArg Value.bool h) (WL.cl rfl (fun w hI => zmq _ _) (g [[3],[4,4,3,2]] ?_));refine WL.so (SO.call (Enters.val CaF.h rfl rfl) (fun w hI => zq9 x m (ww.1 h) D hL hR _ hI.imm)) rfl (zs (g [[4]] ?_));refine WP.ret1 rfl rfl rfl (RV.tmp rfl) (fun w hI => ⟨rfl, hI.keep⟩)
theorem zoz (x : xb) (m : zmn) (h : zmD x = false) (D : Imm) {kM : Bool} (hL : LibD kM D) (hR : zmv D x m) (w : World) (hH : Holds D w) : xC Tryz.prog 80 [.agg #[.func (.func 150) #[] #[], .func (.func 151) #[] #[], .func (.func 152) #[] #[]], zmP x m] w (znX 1) := by
  unfold xC;refine en Tryz.func80 rfl Tryz.ntmps80 (Inv.start hH) (g [[1],[1,0,1]] ?_);refine WL.so (SO.box rfl rfl) rfl (zw fun b2 hb2 => ?_);refine WL.so (SO.box rfl rfl) rfl (zw fun b3 hb3 => ?_);refine g [[4],[4,4,3,2]] ?_;refine WL.so (SO.call (Enters.val CaF.h rfl rfl) (fun w hI => zpB x m D _ hR hI.imm)) rfl (zs ?_);refine WL.know 8 (.bool false) rfl (congrArg Value.bool h) (WL.nf rfl (fun w hI => qs _ _) (g [[1]] ?_));refine WP.panicBody rfl (fun w hI => ⟨rfl, hI.keep⟩)
theorem zp3 (x : xb) (m : zmn) (D : Imm) {kM : Bool} (hL : LibD kM D) (hR : zmv D x m) (w : World) (hH : Holds D w) : z8 Tryz.prog 22 [zmP x m] w (.tuple #[st (wrO zmD zmu x).1, it (wrO zmD zmu x).2]) := by
  unfold z8;refine enD Tryz.func22 rfl Tryz.ntmps22 (Inv.start hH) (g [[1],[1,0]] ?_);refine WL.so (SO.box rfl rfl) rfl (zw fun b1 hb1 => ?_);refine g [[1]] ?_;refine WL.so (SO.alloc ZvF.h rfl) rfl (zw fun b3 hb3 => ?_);refine g [[3],[1,3,2,1]] ?_;refine WL.deferA rfl (g [[3],[0,3,2,1]] ?_);refine WC.drawH [(b1, _)] zk (fun _ hI => hI.tail) ?_;refine WH.two (i := 0) (j := 1) zk ?_ ?_
  · refine WHo.so rfl (SO.callP CaF.h rfl (fun w hI => zoK _)) rfl (zs ⟨(fun _ hI => hI.tail), ?_⟩);refine WH.one (i := 1) zk (WHo.yd rfl (Yd.lV [_, _, _, _, _] rfl (RdN.own (k := 1) (n := 5) rfl rfl)) rfl ?_);rcases h6 : zmD x with _ | _
    · refine WH.one (i := 2) zk (WHo.no rfl (SO.fail (Enters.func CaF.h rfl) (fun w hI => zoz x m h6 D hL hR _ hI.imm) (g [[1]] ?_)));refine WP.panicDA (k := 0) [_, _] [_, _] rfl CaF.h rfl (fun w hI => k5 b3 1 0 _ w (hI.own _ _ (List.mem_of_getElem? (i := 0) rfl))) rfl zV (fun w hI => ⟨congrArg Ending.returned (by rw [zqh h6]; rfl), hI.keep⟩)
    skip;refine WH.one (i := 2) zk (WHo.so rfl (SO.callP CaF.h rfl (fun w hI => zoA x m h6 D hL hR _ hI.imm)) rfl (zs ⟨(fun _ hI => hI.tail), ?_⟩));refine WH.one (i := 3) zk (WHo.yd rfl (Yd.assign rfl) rfl ?_);refine WH.one (i := 4) zk (WHo.so rfl (SO.store 0 rfl SzF.h rfl rfl rfl rfl (zqb rfl) (za rfl)) rfl ?_);rintro _ _ _ ⟨rfl, rfl, rfl⟩;refine ⟨(fun _ hI => hI.tail), ?_⟩;refine WH.nil zk (g [[2]] ?_);refine WP.endDA [_, _] [_, _] rfl rfl CaF.h (fun w hI => zmt b3 w) rfl zV (fun w hI => ⟨congrArg Ending.returned (by rw [zp2 h6]; rfl), hI.keep⟩)
  refine WHo.yd rfl (Yd.lV [_, _, _, _, _] rfl (RdN.own (k := 1) (n := 5) rfl rfl)) rfl ?_;refine WH.one (i := 0) zk (WHo.so rfl (SO.callP CaF.h rfl (fun w hI => zoK _)) rfl (zs ⟨(fun _ hI => hI.tail), ?_⟩));rcases h6 : zmD x with _ | _
  · refine WH.one (i := 2) zk (WHo.no rfl (SO.fail (Enters.func CaF.h rfl) (fun w hI => zoz x m h6 D hL hR _ hI.imm) (g [[1]] ?_)));refine WP.panicDA (k := 0) [_, _] [_, _] rfl CaF.h rfl (fun w hI => k5 b3 1 0 _ w (hI.own _ _ (List.mem_of_getElem? (i := 0) rfl))) rfl zV (fun w hI => ⟨congrArg Ending.returned (by rw [zqh h6]; rfl), hI.keep⟩)
  skip;refine WH.one (i := 2) zk (WHo.so rfl (SO.callP CaF.h rfl (fun w hI => zoA x m h6 D hL hR _ hI.imm)) rfl (zs ⟨(fun _ hI => hI.tail), ?_⟩));refine WH.one (i := 3) zk (WHo.yd rfl (Yd.assign rfl) rfl ?_);refine WH.one (i := 4) zk (WHo.so rfl (SO.store 0 rfl SzF.h rfl rfl rfl rfl (zqb rfl) (za rfl)) rfl ?_);rintro _ _ _ ⟨rfl, rfl, rfl⟩;refine ⟨(fun _ hI => hI.tail), ?_⟩;refine WH.nil zk (g [[2]] ?_);refine WP.endDA [_, _] [_, _] rfl rfl CaF.h (fun w hI => zmt b3 w) rfl zV (fun w hI => ⟨congrArg Ending.returned (by rw [zp2 h6]; rfl), hI.keep⟩)
theorem zpV {s : Bs} {z : xb} {c : Int} (h : zmY znj zn2 zmD zmu s = (z, c)) (hc : c ≠ 0) : z = znj := by
  unfold zmY at h;split at h
  · cases h; rfl
  split at h
  · cases h; rfl
  split at h
  · cases h; exact absurd rfl hc
  cases h; rfl
theorem zrB (s : Bs) (hs : s.length ≤ 2 ^ 20) (D : Imm) {kM : Bool} (hL : LibD kM D) (w : World) (hH : Holds D w) : y6 Tryz.prog 25 [st s] w D (fun v D' => ∃ x m c, zpI s = (x, c) ∧ v = .tuple #[zmP x m, it c] ∧ zmv D' x m) := by
  unfold y6;refine enD Tryz.func25 rfl Tryz.ntmps25 (Inv.start hH) (g [[1],[1,0]] ?_);refine WL.so (SO.alloc ZvF.h rfl) rfl (zw fun b2 hb2 => ?_);refine WL.so (SO.alloc ZvF.h rfl) rfl (zw fun b3 hb3 => ?_);refine g [[3],[1,3,2,0]] ?_;refine WL.deferA rfl (g [[3],[1,3,2,0]] ?_);refine WL.cl rfl (fun w hI => zoK _) (g [[1]] ?_);refine WL.so (SO.tryE (Enters.func CaF.h rfl) (fun w hI => zs9 s hs D hL w hI.imm) ?_) rfl ?_
  · rintro z c hz hc;refine g [[1]] ?_;refine WP.panicDA (k := 0) [_, _] [_, _] rfl CaF.h rfl (fun w hI => k5 b3 c 0 _ w (hI.own _ _ (List.mem_of_getElem? (i := 0) rfl))) rfl zV (fun w hI => ⟨_, D, rfl, hI.keep, hI.imm, DExt.refl _ _, znj, ⟨⟨none, 0, 0⟩, []⟩, c, zpV hz hc ▸ hz, rfl, ⟨SlL.nil _ _, rfl, fun i hi => absurd hi (Nat.not_lt_zero i), Nat.zero_le _, fun i hi => absurd hi (Nat.not_lt_zero i)⟩⟩)
  rintro _ D2 _ ⟨y, hy, hX2, ⟨m, rfl, hR⟩, rfl⟩;refine g [[5]] ?_;refine WP.endDA [_, _] [_, _] rfl rfl CaF.h (fun w hI => zmt b3 w) rfl zV (fun w hI => ⟨_, D2, rfl, hI.keep, hI.imm, hX2, y, m, 0, hy, rfl, hR⟩)
end Go.Proofs.YtaiegbjgfdhgaaaGreatDoor
namespace Go.Bk
structure Mv where
  at_ : Int
  place : Int
  long : Sp
deriving DecidableEq, Inhabited
structure Hors where
  pace : Int
  moves : List Mv
deriving DecidableEq, Inhabited
def moveB (m : Mv) : Bool := inB m.at_ 0 200 && inB m.place 0 30 && spB m.long 1 20
def zmU (h : Hors) : Bool := inB h.pace 0 3 && decide (h.moves.length ≤ 7) && h.moves.all moveB
structure zsn (h : Hors) : Prop where
  pace : 0 ≤ h.pace ∧ h.pace ≤ 3
  n : h.moves.length ≤ 7
  moves : ∀ m ∈ h.moves, (0 ≤ m.at_ ∧ m.at_ ≤ 200) ∧ (0 ≤ m.place ∧ m.place ≤ 30) ∧ 1 ≤ m.long.lo ∧ m.long.lo ≤ m.long.hi ∧ m.long.hi ≤ 20
theorem zuv {h : Hors} : zmU h = true ↔ zsn h := by
  simp only [zmU, moveB, inB, spB, Bool.and_eq_true, List.all_eq_true, decide_eq_true_eq];constructor
  · rintro ⟨⟨a, b⟩, c⟩;exact ⟨a, b, fun m hm => ⟨(c m hm).1.1, (c m hm).1.2, (c m hm).2⟩⟩
  · rintro ⟨a, b, c⟩;exact ⟨⟨a, b⟩, fun m hm => ⟨⟨(c m hm).1, (c m hm).2.1⟩, (c m hm).2.2⟩⟩
def digL (n : Nat) : Bs := if n < 125 then [UInt8.ofNat (n + 125)] else [UInt8.ofNat (n / 125), UInt8.ofNat (n % 125 + 125)]
def zHF (m : Mv) : List Nat := [m.at_.toNat, m.place.toNat, m.long.lo.toNat, (m.long.hi - m.long.lo).toNat]
def sumF : Nat → Nat → Nat → Bs → Nat × Nat
  | _, p, q, [] => (p, q)
  | i, p, q, x :: r => sumF (i + 1) ((p + x.toNat) % 251) ((q + (i + 1) % 251 * x.toNat) % 251) r
def znq (l : Bs) : Nat × Nat := sumF 0 0 0 l
def takF : Nat → Nat → Nat → Bs → Nat × Nat
  | _, p, q, [] => (p, q)
  | i, p, q, x :: r => takF (i + 1) ((p + (251 - x.toNat % 251)) % 251) ((q + (i + 1) % 251 * (251 - x.toNat % 251)) % 251) r
def zng (b : Bs) : Int := if 250 < b.length then 3 else if 2 ≤ b.length ∧ (b.any fun x => decide (251 ≤ x.toNat)) = false then 0 else 8
def zmW (b : Bs) : Bs := b.take (b.length - 2)
def zom (b : Bs) : Nat × Nat := ((b.getD (b.length - 2) 0).toNat, (b.getD (b.length - 1) 0).toNat)
def quoN (a b : Nat) : Nat := ((List.range 251).find? fun q => q * b % 251 == a).getD 0
def zmr (b : Bs) : Nat × Nat := takF 0 (zom b).1 (zom b).2 (zmW b)
def znx (b : Bs) : Bs × Int :=
  if zng b ≠ 0 then ([], zng b) else if zom b = znq (zmW b) then ([], 4) else
  if (zmr b).2 = 0 then (b.set (b.length - 2) (UInt8.ofNat (znq (zmW b)).1), 0) else
  if (zmr b).1 = 0 then (b.set (b.length - 1) (UInt8.ofNat (znq (zmW b)).2), 0) else
  if 1 ≤ quoN (zmr b).2 (zmr b).1 ∧ quoN (zmr b).2 (zmr b).1 ≤ b.length - 2 then
    (b.set (quoN (zmr b).2 (zmr b).1 - 1) (UInt8.ofNat (((b.getD (quoN (zmr b).2 (zmr b).1 - 1) 0).toNat + (zmr b).1) % 251)), 0)
  else ([], 11)
end Go.Bk
namespace Go.Proofs.YtaiegbjgfdhgaaaGreatDoor
open Go.W Go.Bk
def mvC (m : Mv) : List Value := [it m.at_, it m.place, it m.long.lo, it m.long.hi]
abbrev znM (h : Hors) (m : Sl) : Value := .agg #[it h.pace, slV m]
structure zoE (D : Imm) (h : Hors) (m : Sl) : Prop where
  r : SlL D 4 (h.moves.map mvC) m.a m.n
  n : m.n ≤ 9223372036854775807
theorem zoE.ext {w : World} {D D' : Imm} (hD : DExt w D D') {h : Hors} {m : Sl} (hR : zoE D h m) : zoE D' h m := ⟨hR.r.ext hD, hR.n⟩
def btC (b : UInt8) : List Value := [bt b]
theorem znK : ∀ s, (btC s).length = 1 := fun _ => rfl
def ntC (n : Nat) : List Value := [nt n]
theorem zv1 : ∀ s, (ntC s).length = 1 := fun _ => rfl
end Go.Proofs.YtaiegbjgfdhgaaaGreatDoor
namespace Go.Bk
open Go.W (butN gt putG)
def wrI (i : Int) : Int := IntKind.i64.wrap i
def orF (f : Nat → Bool) : Nat → Nat
  | 0 => 0
  | n + 1 => orF f n ||| (if f n then 2 ^ n else 0)
theorem znD (f : Nat → Bool) : ∀ n, orF f n < 2 ^ n
  | 0 => Nat.one_pos
  | n + 1 => Nat.or_lt_two_pow (Nat.lt_of_lt_of_le (znD f n) (Nat.pow_le_pow_right (by decide) (Nat.le_succ n))) (by
    split
    · exact Nat.pow_lt_pow_right (by decide) (Nat.lt_succ_self n)
    · exact Nat.two_pow_pos _)
def hasN (s n : Nat) : Bool := decide (s / 2 ^ n % 2 = 1)
def takI (sure : Bool) (m : Mv) : Int := if sure then m.long.hi else m.long.lo
def thrI (h : Hors) (sure : Bool) (b : Int) (i k : Nat) : Int := b + takI sure (gt h.moves i) + h.pace * max ((gt h.moves i).place - (gt h.moves k).place) ((gt h.moves k).place - (gt h.moves i).place)
def folB (h : Hors) (sure : Bool) (i k : Nat) : Bool := decide (thrI h sure (gt h.moves i).at_ i k ≤ (gt h.moves k).at_)
def chaN (h : Hors) (sure : Bool) (i : Nat) : Nat := if i < h.moves.length then orF (folB h sure i) h.moves.length else 0
theorem zqm (h : Hors) (hn : h.moves.length ≤ 7) (sure : Bool) (i : Nat) : chaN h sure i < 128 := by
  unfold chaN;split
  · exact Nat.lt_of_lt_of_le (znD _ _) (Nat.pow_le_pow_right (n := 2) (by decide) hn)
  · decide
def apaB (c : Nat → Nat) (i k : Nat) : Bool := !hasN (c i) k && !hasN (c k) i
abbrev MSt := Nat × (Nat → Option Nat)
def matL (c : Nat → Nat) (some_ : Nat) (rec : Nat → MSt → Bool × MSt) (i : Nat) : List Nat → MSt → Bool × MSt
  | [], s => (false, s)
  | k :: ks, s => if hasN some_ k = false ∨ hasN (c i) k = false ∨ hasN s.1 k = true then matL c some_ rec i ks s else
    match s.2 k with
    | none => (true, (s.1 ||| 2 ^ k, putG s.2 k i))
    | some f => match rec f (s.1 ||| 2 ^ k, s.2) with
      | (true, s') => (true, (s'.1, putG s'.2 k i))
      | (false, s') => matL c some_ rec i ks s'
def matF (c : Nat → Nat) (some_ : Nat) : Nat → Nat → MSt → Bool × MSt
  | 0, i, s => matL c some_ (fun _ s => (false, s)) i (List.range 7) s
  | n + 1, i, s => matL c some_ (matF c some_ n) i (List.range 7) s
def allF (c : Nat → Nat) (some_ : Nat) : List Nat → (Nat → Option Nat) → Nat → Option Nat
  | [], F => F
  | i :: is, F => allF c some_ is (if hasN some_ i = false then F else (matF c some_ 7 i (0, F)).2.2)
def cntF (F : Nat → Option Nat) : Nat := ((List.range 7).filter fun k => (F k).isSome).length
def horI (pc : Nat → Int) (c : Nat → Nat) (some_ : Nat)  : Int := wrI (pc some_ - (cntF (allF c some_ (List.range 7) fun _ => none) : Int))
def tryL (rec : List Int → Bool × List Int) (c : Nat → Nat) (i : Nat) : List Nat → List Int → Bool × List Int
  | [], l => (false, l)
  | x :: xs, l => if ((List.range i).any fun k => decide (gt l k = (x : Int)) && apaB c i k) = true then tryL rec c i xs l else
    match rec (l.set i (x : Int)) with
    | (true, l') => (true, l')
    | (false, l') => tryL rec c i xs l'
def ztL (c : Nat → Nat) (n : Nat) : Nat → Nat → List Int → Bool × List Int
  | 0, _, l => (true, l)
  | r + 1, i, l => tryL (ztL c n r (i + 1)) c i (List.range n) l
def fewI (pc : Nat → Int) (h : Hors) (sure : Bool) : Int := horI pc (chaN h sure) (2 ^ h.moves.length - 1)
def fewL (pc : Nat → Int) (h : Hors) (sure : Bool) : List Int := (ztL (chaN h sure) (fewI pc h sure).toNat h.moves.length 0 (List.replicate 7 0)).2.take h.moves.length
def zn6 (pc : Nat → Int) (h : Hors) (sure : Bool) : Int × List Int × Int := if zmU h = true then (fewI pc h sure, fewL pc h sure, 0) else (0, [], 1)
end Go.Bk
namespace Go.Bk
open Go.W (butN gt)
def rng (a b : Int) : List Int := (List.range (b - a + 1).toNat).map fun (i : Nat) => a + (i : Int)
theorem wH (a b : Int) : (rng a b).length = (b - a + 1).toNat := by simp [rng]
theorem Xo {a b : Int} {i : Nat} (h : i < (b - a + 1).toNat) : gt (rng a b) i = a + (i : Int) := by
  simp [gt, rng, List.getD, h]
structure Now where
  hut : Hut
  water : Int
  wave : Int
  place : Nat
deriving DecidableEq
def depI (s : Surf) (water row : Int) : Int := max 0 (water - s.step * row)
def floB (s : Surf) (n : Now) : Bool := if n.place % 2 = 1 then false else
  let d := depI s n.water ((Lib.ctz 64 n.place : Int) - 1)
  decide (0 < d) && decide (n.hut.floor < d + n.wave)
def houL (s : Surf) (h : Nat) : List (Int × Int) := (rng (gt s.water h).lo (gt s.water h).hi).flatMap fun a => (rng (gt s.waves h).lo (gt s.waves h).hi).map fun b => (a, b)
def plcL (from_ : Nat) : Nat → Nat → List Nat
  | 0, _ => []
  | n + 1, j => if 2 ^ j ≤ from_ then (if 2 ^ j &&& from_ = 0 then plcL from_ n (j + 1) else 2 ^ j :: plcL from_ n (j + 1)) else []
def nowL (s : Surf) (x : Hut) (h : Nat) (ps : List Nat) : List Now := ps.flatMap fun p => (houL s h).map fun o => ⟨x, o.1, o.2, p⟩
def looL (s : Surf) (x : Hut) (from_ h : Nat) : List Now := nowL s x h (plcL from_ 8 0)
def goN (s : Surf) (l : List Now) : Nat := l.foldl (fun t n => t ||| (if floB s n = true ∧ n.hut.brake < n.wave then n.place / 2 else n.place)) 0
def talB (s : Surf) (l : List Now) : Bool × Bool := l.foldl (fun t n => (t.1 || floB s n, t.2 || !floB s n)) (false, false)
def folN (s : Surf) (x : Hut) : Nat → Nat
  | 0 => 2 * 2 ^ x.row.toNat
  | h + 1 => goN s (looL s x (folN s x h) h)
def tlyB (s : Surf) (x : Hut) (h : Nat) : Bool × Bool := talB s (looL s x (folN s x h) h)
def firI (s : Surf) (x : Hut) : Int := match (List.range s.water.length).find? fun h => (tlyB s x h).1 with
  | some h => (h : Int)
  | none => -1
abbrev SSt := List Int × List Int
def hrsT (rec : SSt → Bool × SSt) (many : Int) (hut : Nat) : List Nat → SSt → Bool × SSt
  | [], s => (false, s)
  | h :: hs, s => if gt s.2 h = many then hrsT rec many hut hs s else
    match rec (s.1.set hut (h : Int), s.2.set h (wrI (gt s.2 h + 1))) with
    | (true, s') => (true, s')
    | (false, s') => hrsT rec many hut hs (s'.1, s'.2.set h (wrI (gt s'.2 h - 1)))
def savF (first : Nat → Int) (can : Nat) (many : Int) (left : Nat) : Nat → Nat → SSt → Bool × SSt
  | 0, _, s => (true, s)
  | r + 1, hut, s => if hasN (butN can left) hut = false then savF first can many left r (hut + 1) (s.1.set hut (-1), s.2) else
    hrsT (savF first can many left r (hut + 1)) many hut (List.range (first hut).toNat) (s.1.set hut (-1), s.2)
def savS (pc : Nat → Int) (first : Nat → Int) (can : Nat) (many : Int) (n : Nat) : List (Nat × Nat) → SSt → List Int × Nat
  | [], _ => ([], 0)
  | x :: r, s => if pc x.2 = (x.1 : Int) ∧ butN x.2 can = 0 then
      match savF first can many x.2 n 0 s with
      | (true, s') => (s'.1, x.2)
      | (false, s') => savS pc first can many n r s'
    else savS pc first can many n r s
def prsL (n : Nat) : List (Nat × Nat) := (List.range (n + 1)).flatMap fun i => (List.range (2 ^ n)).map fun s => (i, s)
def fstI (s : Surf) (i : Nat) : Int := if i < s.huts.length then firI s (gt s.huts i) else 0
def canN (s : Surf) : Nat := orF (fun i => decide (0 ≤ fstI s i)) s.huts.length
def savP (pc : Nat → Int) (s : Surf) (many : Int) : List Int × Nat := savS pc (fstI s) (canN s) many s.huts.length (prsL s.huts.length) (List.replicate s.huts.length 0, List.replicate 8 0)
def zqa (pc : Nat → Int) (s : Surf) (many : Int) : List Int × Int × Int := if zn8 s = false then ([], 0, 1) else if inB many 0 5 = false then ([], 0, 2) else ((savP pc s many).1, ((savP pc s many).2 : Int), 0)
def zuB (s : Surf) (n : Int) : Bool := inB n 0 ((s.huts.length : Int) - 1)
def zq2 (s : Surf) (n : Int) : Bool := inB n 0 ((s.water.length : Int) - 1)
def zr6 (s : Surf) (hut : Int) : Int × Int × Int := if zn8 s = false then (0, 0, 1) else if zuB s hut = false then (0, 0, 2) else
  ((orF (fun h => !(tlyB s (gt s.huts hut.toNat) h).2) s.water.length : Nat), (orF (fun h => (tlyB s (gt s.huts hut.toNat) h).1) s.water.length : Nat), 0)
def znG (s : Surf) (hut h : Int) : Int × Bool × Int := if zn8 s = false then (0, false, 1) else if (zuB s hut && zq2 s h) = false then (0, false, 2) else
  ((folN s (gt s.huts hut.toNat) (h.toNat + 1) / 2 : Nat), decide (folN s (gt s.huts hut.toNat) (h.toNat + 1) % 2 = 1), 0)
end Go.Bk
namespace Go.Bk
open Go.W (butN gt)
def kndI (f : Flag) (n : Int) : Nat := if f.high ≤ n then 4 else if n < f.low then 1 else 2
def knsN (f : Flag) (h : zoq) : Nat := ((if h.thunder = 2 then [] else rng h.wind.lo h.wind.hi).foldl (fun k n => k ||| kndI f n) 0) ||| (if h.thunder = 0 then 0 else 4)
structure Pole where
  up : Bool
  calm : Int
deriving DecidableEq, Inhabited
structure Stp where
  to : Pole
  up : Bool
  kind : Nat
deriving Inhabited
def polF (p : Pole) (kind : Nat) (quiet : Int) : Pole × Bool :=
  if kind = 2 then (⟨true, 0⟩, true) else if p.up = false ∨ kind = 1 then (⟨p.up, 0⟩, p.up) else if wrI (p.calm + 1) = quiet then (⟨false, 0⟩, true) else (⟨p.up, wrI (p.calm + 1)⟩, true)
def upB (f : Flag) (h : Nat) : Bool := f.seen.all fun s => s.up || !decide (s.hour = (h : Int))
def dnB (f : Flag) (h : Nat) : Bool := f.seen.all fun s => !s.up || !decide (s.hour = (h : Int))
def stpO (f : Flag) (p : Pole) (h kind : Nat) : Option Stp :=
  if hasN (knsN f (gt f.hours h)) kind = false then none else
  if ((polF p kind f.quiet).2 && !upB f h || !(polF p kind f.quiet).2 && !dnB f h) = true then none else some ⟨(polF p kind f.quiet).1, (polF p kind f.quiet).2, kind⟩
def stpL (f : Flag) (p : Pole) (h : Nat) : List Stp := (List.range 3).filterMap (stpO f p h)
def tolF {T : Type} (f : Flag) (end_ : T) (stepf : Stp → Nat → T → T) (join : T → T → T) : Nat → Pole → Nat → Option T
  | 0, _, _ => some end_
  | r + 1, p, h => (stpL f p h).foldl (fun k x => match tolF f end_ stepf join r x.to (h + 1) with
    | none => k
    | some y => match k with
      | none => some (stepf x h y)
      | some z => some (join z (stepf x h y))) none
def flwI (from_ to : Nat) (s : Stp) (h : Nat) : Int := if s.up = true ∧ from_ ≤ h ∧ h < to then 1 else 0
def spaO (f : Flag) (from_ to : Nat) : Option Sp := tolF f ⟨0, 0⟩ (fun x h r => ⟨wrI (r.lo + flwI from_ to x h), wrI (r.hi + flwI from_ to x h)⟩) (fun a b => ⟨min a.lo b.lo, max a.hi b.hi⟩) f.hours.length ⟨false, 0⟩ 0
def zpP (f : Flag) : Int := (tolF f (1 : Int) (fun _ _ r => wrI (r * 1)) (fun a b => wrI (a + b)) f.hours.length ⟨false, 0⟩ 0).getD 0
def sprN (f : Flag) (h : Nat) : Sp := (spaO f h (h + 1)).getD ⟨0, 0⟩
def orI (g : Nat → Int) : Nat → Int
  | 0 => 0
  | n + 1 => IntKind.i64.wrap ((BitVec.ofInt 64 (orI g n) ||| BitVec.ofInt 64 (IntKind.i64.wrap (g n * 2 ^ (min n 64)))).toNat)
def zua (f : Flag) : Int × Int := if znf f = false then (0, 1) else (zpP f, 0)
def zrz (f : Flag) : Int × Int × Int := if znf f = false then (0, 0, 1) else if zpP f ≤ 0 then (0, 0, 10) else
  (orI (fun h => (sprN f h).lo) f.hours.length, orI (fun h => (sprN f h).hi) f.hours.length, 0)
def delL {α : Type} (set : Nat) : Nat → List α → List α
  | 0, l => l
  | i + 1, l => delL set i (if hasN set i then l.eraseIdx i else l)
def seeN (f : Flag) (set : Nat) : Flag := { f with seen := delL set f.seen.length f.seen }
def wroS (pc : Nat → Int) (f : Flag) : List (Nat × Nat) → Nat
  | [] => 0
  | x :: r => if pc x.2 = (x.1 : Int) ∧ 0 < zpP (seeN f x.2) then x.2 else wroS pc f r
def zoB (pc : Nat → Int) (f : Flag) : Int × Int := if znf f = false then (0, 1) else if zpP f ≠ 0 then (0, 4) else ((wroS pc f (prsL f.seen.length) : Nat), 0)
end Go.Bk
namespace Go.Bk
open Go.W (butN gt)
structure Wat where
  all : Nat
  left : Nat
  right : Nat
def watN (b : xb) : Nat := (b.wide * b.deep).toNat
def allN (b : xb) : Nat := orF (fun _ => true) (watN b)
def lefN (b : xb) : Nat := orF (fun p => decide ((p : Int) % b.wide = 0)) (watN b)
def rigN (b : xb) : Nat := orF (fun p => decide ((p : Int) % b.wide = b.wide - 1)) (watN b)
def uniN (l : List Nat) : Nat := l.foldl (fun a b => a ||| b) 0
def steN (b : xb) (p : Nat) : Nat := allN b &&& uniN [p, butN p (lefN b) / 2, butN p (rigN b) * 2, p / 2 ^ b.wide.toNat, p * 2 ^ b.wide.toNat]
def rowN (b : xb) (n : Nat) : Nat := allN b / 2 ^ (n * b.wide.toNat) * 2 ^ (n * b.wide.toNat)
structure Qst where
  boat : Nat
  without : Nat
  row : Nat
  speed : Nat
deriving DecidableEq
inductive Hld where
  | row (n : Nat)
  | sight (s : zmz)
def sgtN (b : xb) (s : zmz) (m : Nat) : Nat := if (m : Int) ≠ s.minute then allN b else
  ((rng s.rows.lo s.rows.hi).flatMap fun r => (rng s.cols.lo s.cols.hi).map fun c => 2 ^ (r * b.wide + c).toNat).foldl (fun a x => a ||| x) 0
def hatN (b : xb) : Hld → Nat → Nat
  | .row n, _ => rowN b n
  | .sight s, m => sgtN b s m
def zoN {α : Type} (set : Nat) (l : List α) : Nat → List α
  | 0 => []
  | k + 1 => zoN set l k ++ (match l[k]? with | some x => if hasN set k then [] else [x] | none => [])
def hldL (b : xb) (q : Qst) : List Hld := .row q.row :: (zoN q.without (gt b.seen q.boat) (gt b.seen q.boat).length).map .sight
def zrQ {α : Type} (f : α → α) : Nat → α → α
  | 0, x => x
  | n + 1, x => zrQ f n (f x)
def mntF (b : xb) (hs : List Hld) (speed : Nat) (s : List Nat × Nat) (m : Nat) : List Nat × Nat :=
  let c := hs.foldl (fun c h => c &&& hatN b h m) s.2
  let o := gt s.1 m &&& c
  (s.1.set m o, zrQ (steN b) speed o)
def mntL (b : xb) (back : Bool) : List Nat := (List.range (b.last + 1).toNat).map fun m => if back then b.last.toNat - m else m
def pasF (b : xb) (q : Qst) (back : Bool) (out : List Nat) : List Nat := ((mntL b back).foldl (mntF b (hldL b q) q.speed) (out, allN b)).1
def flwL (b : xb) (q : Qst) : List Nat := pasF b q true (pasF b q false (List.replicate 13 (allN b)))
def canB (b : xb) (q : Qst) : Bool := decide (gt (flwL b q) 0 ≠ 0)
def plnQ (b : xb) (boat : Nat) : Qst := ⟨boat, 0, 0, b.speed.toNat⟩
def zq1 (b : xb) (n : Int) : Bool := inB n 0 ((b.seen.length : Int) - 1)
def ztD (b : xb) (n : Int) : Bool := inB n 0 b.last
def znS (b : xb) (boat m : Int) : Int × Int := if zmD b = false then (0, 1) else if (zq1 b boat && ztD b m) = false then (0, 2) else
  if canB b (plnQ b boat.toNat) = false then (0, 10) else ((gt (flwL b (plnQ b boat.toNat)) m.toNat : Nat), 0)
def uptL (n : Nat) : List Nat := List.range (n + 1)
def neaI (b : xb) (boat : Nat) : Sp :=
  ⟨(Lib.ctz 64 (uniN ((flwL b (plnQ b boat)).take (b.last.toNat + 1))) : Int) / b.wide, (((uptL b.deep.toNat).find? fun row => !canB b { plnQ b boat with row := row + 1 }).getD 0 : Nat)⟩
def zox (b : xb) (boat : Int) : Sp × Int := if zmD b = false then (⟨0, 0⟩, 1) else if zq1 b boat = false then (⟨0, 0⟩, 2) else
  if canB b (plnQ b boat.toNat) = false then (⟨0, 0⟩, 10) else (neaI b boat.toNat, 0)
def zqd (b : xb) (boat : Int) : Int × Int := if zmD b = false then (0, 1) else if zq1 b boat = false then (0, 2) else
  match (uptL 3).find? fun n => canB b ⟨boat.toNat, 0, 0, n⟩ with
  | some n => ((n : Int), 0)
  | none => (0, 4)
end Go.Bk
namespace Go.Bk
def zog : xb := ⟨6, 4, 1, 6, [[⟨0, ⟨0, 0⟩, ⟨3, 3⟩⟩, ⟨4, ⟨2, 2⟩, ⟨2, 3⟩⟩], [⟨2, ⟨3, 4⟩, ⟨1, 1⟩⟩, ⟨5, ⟨5, 5⟩, ⟨0, 3⟩⟩]]⟩
def zrM : Flag := ⟨4, 8, 2, [⟨⟨2, 3⟩, 0⟩, ⟨⟨7, 8⟩, 0⟩, ⟨⟨3, 3⟩, 1⟩, ⟨⟨2, 4⟩, 0⟩, ⟨⟨1, 1⟩, 0⟩, ⟨⟨5, 5⟩, 0⟩], [⟨3, true⟩]⟩
def zo6 : Surf := ⟨3, 2, [⟨3, 4⟩, ⟨5, 5⟩, ⟨6, 7⟩, ⟨4, 4⟩], [⟨1, 1⟩, ⟨1, 2⟩, ⟨2, 3⟩, ⟨0, 1⟩], [⟨6, 2, 0⟩, ⟨4, 1, 1⟩, ⟨9, 0, 2⟩]⟩
def zqq : Hors := ⟨1, [⟨0, 0, ⟨4, 6⟩⟩, ⟨8, 3, ⟨4, 4⟩⟩, ⟨10, 0, ⟨5, 6⟩⟩, ⟨16, 6, ⟨3, 3⟩⟩]⟩
theorem ztq : zox zog 1 = (⟨0, 1⟩, 0) := by decide +kernel
theorem zwo : zrz zrM = (12, 62, 0) := by decide +kernel
end Go.Bk
namespace Go.Proofs.YtaiegbjgfdhgaaaGreatDoor
open Go.W Go.Bk
def zxc (e : Int) : List PanicEntry := [{ v := .iface 211 (it e), recovered := false }]
theorem zqE (e : Int) (w : World) : z8 Tryz.prog 119 [.bool true, it e] w (.tuple #[]) := by
  unfold z8;refine en Tryz.func119 rfl Tryz.ntmps119 zI (g [[1],[7,0,1]] ?_);refine WP.ret0 rfl rfl rfl  (fun w hI => ⟨rfl, hI.keep⟩)
theorem znu (e : Int) (w : World) : xC Tryz.prog 119 [.bool false, it e] w (zxc e) := by
  unfold xC;refine en Tryz.func119 rfl Tryz.ntmps119 zI (g [[1],[6,0,1],[3,1]] ?_);refine WL.no (SO.panic rfl ?_);refine WP.panicBody rfl (fun w hI => ⟨rfl, hI.keep⟩)
theorem zqY (b : Nat) (w : World) : Idle Tryz.prog 43 [pt b] w := by
  refine callsD_of_wpS Tryz.func43 rfl fun c₀ cs hu => wpS_seq ?_;apply wpS_region;simp [wpOpsS, go_sem, recoverD, hu, Tryz.ntmps43]
  show Code.wpS _ _ _ _ _ _;refine wpS_of_wp (WC.start (x := ⟨19, [], [], w⟩) (fr := [(0, pt b), (2, .nilIface)]) (D := fun _ => none) (hp := []) ?_ ?_)
  · exact ⟨⟨by simp, rfl, zn7 ⟨by simp, by simp, trivial⟩⟩, (Inv.start (by intro _ _ h; cases h))⟩
  refine g [[1],[2,0,2]] ?_;refine WL.yd (Yd.neqNilNil UnF.h rfl) rfl (g [[4]] ?_);exact WP.mk fun a w' hA => ⟨hA.f.defers, .returning, by cases c₀; simp only at hu; subst hu; rfl, .tuple #[], by simp [results, Tryz.results43], ⟨_, rfl⟩, rfl, hA.i.keep⟩
theorem zqi (b : Nat) (e v0 : Int) (t : TypeId) (w : World) (hb : w.heap[b]? = some (.cells (List.toArray [it v0]) t (0, 0))) : uw Tryz.prog 43 [pt b] (.iface 211 (it e)) b (.cells (List.toArray [it e]) t (0, 0)) w := by
  refine callsD_of_wpS Tryz.func43 rfl fun c₀ cs hu => wpS_seq ?_;apply wpS_region;simp [wpOpsS, go_sem, recoverD, hu, Tryz.ntmps43]
  show Code.wpS _ _ _ _ _ _;refine wpS_of_wp (WC.start (x := ⟨19, [], [b], w⟩) (fr := [(0, pt b), (2, .iface 211 (it e))]) (D := fun _ => none) (hp := [(b, .cells (List.toArray [it v0]) t (0, 0))]) ?_ ?_)
  · exact ⟨⟨by simp, rfl, zn7 ⟨by simp, by simp, trivial⟩⟩, (Inv.one hb)⟩
  refine g [[1],[2,0,2]] ?_;refine WL.yd (Yd.neqNil UnF.h rfl) rfl (g [[4],[2,0,2]] ?_);refine WL.yd (Yd.assert UnF.h (by intro _ h; cases h) rfl) rfl (g [[9],[8,4,3,0,2],[6,3,0]] ?_);exact WP.mk fun a w' hA => ⟨hA.f.defers, .panicking [{ v := .iface 211 (it e), recovered := true }], rfl, .tuple #[], by simp [results, Tryz.results43], ⟨_, rfl⟩, rfl, hA.i.keep, hA.i.own _ _ (List.mem_of_getElem? (i := 0) rfl)⟩
theorem zpR (n lo hi : Int) (w : World) : z8 Tryz.prog 66 [it n, it lo, it hi] w (.bool (inB n lo hi)) := by
  unfold z8;refine en Tryz.func66 rfl Tryz.ntmps66 zI (g [[1],[5,0,1,2],[5,6,0,1,2]] ?_);refine WL.part 10 rfl (fun g10 => ?_) (fun g10 => ?_)
  · try simp only [zq] at g10
    refine g [[8]] ?_;refine WP.ret1 rfl rfl rfl (RV.tmp rfl) (fun w hI => ⟨zb (by rw [Bool.eq_iff_iff]; simp [inB]; omega), hI.keep⟩)
  try simp only [zq] at g10
  refine g [[8]] ?_;refine WP.ret1 rfl rfl rfl (RV.tmp rfl) (fun w hI => ⟨zb (by rw [Bool.eq_iff_iff]; simp [inB]; omega), hI.keep⟩)
def zB4 (e : Int) : List PanicEntry := [{ v := .iface 259 (it e), recovered := false }]
theorem znO (e : Int) (w : World) : z8 Tryz.prog 160 [.bool true, it e] w (.tuple #[]) := by
  unfold z8;refine en Tryz.func160 rfl Tryz.ntmps160 zI (g [[1],[7,0,1]] ?_);refine WP.ret0 rfl rfl rfl  (fun w hI => ⟨rfl, hI.keep⟩)
theorem zms (e : Int) (w : World) : xC Tryz.prog 160 [.bool false, it e] w (zB4 e) := by
  unfold xC;refine en Tryz.func160 rfl Tryz.ntmps160 zI (g [[1],[6,0,1],[3,1]] ?_);refine WL.no (SO.panic rfl ?_);refine WP.panicBody rfl (fun w hI => ⟨rfl, hI.keep⟩)
theorem znt (b : Nat) (w : World) : Idle Tryz.prog 85 [pt b] w := by
  refine callsD_of_wpS Tryz.func85 rfl fun c₀ cs hu => wpS_seq ?_;apply wpS_region;simp [wpOpsS, go_sem, recoverD, hu, Tryz.ntmps85]
  show Code.wpS _ _ _ _ _ _;refine wpS_of_wp (WC.start (x := ⟨19, [], [], w⟩) (fr := [(0, pt b), (2, .nilIface)]) (D := fun _ => none) (hp := []) ?_ ?_)
  · exact ⟨⟨by simp, rfl, zn7 ⟨by simp, by simp, trivial⟩⟩, (Inv.start (by intro _ _ h; cases h))⟩
  refine g [[1],[2,0,2]] ?_;refine WL.yd (Yd.neqNilNil UnF.h rfl) rfl (g [[4]] ?_);exact WP.mk fun a w' hA => ⟨hA.f.defers, .returning, by cases c₀; simp only at hu; subst hu; rfl, .tuple #[], by simp [results, Tryz.results85], ⟨_, rfl⟩, rfl, hA.i.keep⟩
theorem zqj (b : Nat) (e v0 : Int) (t : TypeId) (w : World) (hb : w.heap[b]? = some (.cells (List.toArray [it v0]) t (0, 0))) : uw Tryz.prog 85 [pt b] (.iface 259 (it e)) b (.cells (List.toArray [it e]) t (0, 0)) w := by
  refine callsD_of_wpS Tryz.func85 rfl fun c₀ cs hu => wpS_seq ?_;apply wpS_region;simp [wpOpsS, go_sem, recoverD, hu, Tryz.ntmps85]
  show Code.wpS _ _ _ _ _ _;refine wpS_of_wp (WC.start (x := ⟨19, [], [b], w⟩) (fr := [(0, pt b), (2, .iface 259 (it e))]) (D := fun _ => none) (hp := [(b, .cells (List.toArray [it v0]) t (0, 0))]) ?_ ?_)
  · exact ⟨⟨by simp, rfl, zn7 ⟨by simp, by simp, trivial⟩⟩, (Inv.one hb)⟩
  refine g [[1],[2,0,2]] ?_;refine WL.yd (Yd.neqNil UnF.h rfl) rfl (g [[4],[2,0,2]] ?_);refine WL.yd (Yd.assert UnF.h (by intro _ h; cases h) rfl) rfl (g [[9],[8,4,3,0,2],[6,3,0]] ?_);exact WP.mk fun a w' hA => ⟨hA.f.defers, .panicking [{ v := .iface 259 (it e), recovered := true }], rfl, .tuple #[], by simp [results, Tryz.results85], ⟨_, rfl⟩, rfl, hA.i.keep, hA.i.own _ _ (List.mem_of_getElem? (i := 0) rfl)⟩
theorem zmE (n lo hi : Int) (w : World) : z8 Tryz.prog 87 [it n, it lo, it hi] w (.bool (inB n lo hi)) := by
  unfold z8;refine en Tryz.func87 rfl Tryz.ntmps87 zI (g [[1],[5,0,1,2],[5,6,0,1,2]] ?_);refine WL.part 10 rfl (fun g10 => ?_) (fun g10 => ?_)
  · try simp only [zq] at g10
    refine g [[8]] ?_;refine WP.ret1 rfl rfl rfl (RV.tmp rfl) (fun w hI => ⟨zb (by rw [Bool.eq_iff_iff]; simp [inB]; omega), hI.keep⟩)
  try simp only [zq] at g10
  refine g [[8]] ?_;refine WP.ret1 rfl rfl rfl (RV.tmp rfl) (fun w hI => ⟨zb (by rw [Bool.eq_iff_iff]; simp [inB]; omega), hI.keep⟩)
def zHJ (e : Int) : List PanicEntry := [{ v := .iface 269 (it e), recovered := false }]
theorem znN (e : Int) (w : World) : z8 Tryz.prog 93 [.bool true, it e] w (.tuple #[]) := by
  unfold z8;refine en Tryz.func93 rfl Tryz.ntmps93 zI (g [[1],[7,0,1]] ?_);refine WP.ret0 rfl rfl rfl  (fun w hI => ⟨rfl, hI.keep⟩)
theorem zmS (e : Int) (w : World) : xC Tryz.prog 93 [.bool false, it e] w (zHJ e) := by
  unfold xC;refine en Tryz.func93 rfl Tryz.ntmps93 zI (g [[1],[6,0,1],[3,1]] ?_);refine WL.no (SO.panic rfl ?_);refine WP.panicBody rfl (fun w hI => ⟨rfl, hI.keep⟩)
theorem zns (b : Nat) (w : World) : Idle Tryz.prog 91 [pt b] w := by
  refine callsD_of_wpS Tryz.func91 rfl fun c₀ cs hu => wpS_seq ?_;apply wpS_region;simp [wpOpsS, go_sem, recoverD, hu, Tryz.ntmps91]
  show Code.wpS _ _ _ _ _ _;refine wpS_of_wp (WC.start (x := ⟨19, [], [], w⟩) (fr := [(0, pt b), (2, .nilIface)]) (D := fun _ => none) (hp := []) ?_ ?_)
  · exact ⟨⟨by simp, rfl, zn7 ⟨by simp, by simp, trivial⟩⟩, (Inv.start (by intro _ _ h; cases h))⟩
  refine g [[1],[2,0,2]] ?_;refine WL.yd (Yd.neqNilNil UnF.h rfl) rfl (g [[4]] ?_);exact WP.mk fun a w' hA => ⟨hA.f.defers, .returning, by cases c₀; simp only at hu; subst hu; rfl, .tuple #[], by simp [results, Tryz.results91], ⟨_, rfl⟩, rfl, hA.i.keep⟩
theorem zor (b : Nat) (e v0 : Int) (t : TypeId) (w : World) (hb : w.heap[b]? = some (.cells (List.toArray [it v0]) t (0, 0))) : uw Tryz.prog 91 [pt b] (.iface 269 (it e)) b (.cells (List.toArray [it e]) t (0, 0)) w := by
  refine callsD_of_wpS Tryz.func91 rfl fun c₀ cs hu => wpS_seq ?_;apply wpS_region;simp [wpOpsS, go_sem, recoverD, hu, Tryz.ntmps91]
  show Code.wpS _ _ _ _ _ _;refine wpS_of_wp (WC.start (x := ⟨19, [], [b], w⟩) (fr := [(0, pt b), (2, .iface 269 (it e))]) (D := fun _ => none) (hp := [(b, .cells (List.toArray [it v0]) t (0, 0))]) ?_ ?_)
  · exact ⟨⟨by simp, rfl, zn7 ⟨by simp, by simp, trivial⟩⟩, (Inv.one hb)⟩
  refine g [[1],[2,0,2]] ?_;refine WL.yd (Yd.neqNil UnF.h rfl) rfl (g [[4],[2,0,2]] ?_);refine WL.yd (Yd.assert UnF.h (by intro _ h; cases h) rfl) rfl (g [[9],[8,4,3,0,2],[6,3,0]] ?_);exact WP.mk fun a w' hA => ⟨hA.f.defers, .panicking [{ v := .iface 269 (it e), recovered := true }], rfl, .tuple #[], by simp [results, Tryz.results91], ⟨_, rfl⟩, rfl, hA.i.keep, hA.i.own _ _ (List.mem_of_getElem? (i := 0) rfl)⟩
theorem zpQ (n lo hi : Int) (w : World) : z8 Tryz.prog 166 [it n, it lo, it hi] w (.bool (inB n lo hi)) := by
  unfold z8;refine en Tryz.func166 rfl Tryz.ntmps166 zI (g [[1],[5,0,1,2],[5,6,0,1,2]] ?_);refine WL.part 10 rfl (fun g10 => ?_) (fun g10 => ?_)
  · try simp only [zq] at g10
    refine g [[8]] ?_;refine WP.ret1 rfl rfl rfl (RV.tmp rfl) (fun w hI => ⟨zb (by rw [Bool.eq_iff_iff]; simp [inB]; omega), hI.keep⟩)
  try simp only [zq] at g10
  refine g [[8]] ?_;refine WP.ret1 rfl rfl rfl (RV.tmp rfl) (fun w hI => ⟨zb (by rw [Bool.eq_iff_iff]; simp [inB]; omega), hI.keep⟩)
def zxd (e : Int) : List PanicEntry := [{ v := .iface 292 (it e), recovered := false }]
theorem znn (e : Int) (w : World) : z8 Tryz.prog 112 [.bool true, it e] w (.tuple #[]) := by
  unfold z8;refine en Tryz.func112 rfl Tryz.ntmps112 zI (g [[1],[7,0,1]] ?_);refine WP.ret0 rfl rfl rfl  (fun w hI => ⟨rfl, hI.keep⟩)
theorem zqF (e : Int) (w : World) : xC Tryz.prog 112 [.bool false, it e] w (zxd e) := by
  unfold xC;refine en Tryz.func112 rfl Tryz.ntmps112 zI (g [[1],[6,0,1],[3,1]] ?_);refine WL.no (SO.panic rfl ?_);refine WP.panicBody rfl (fun w hI => ⟨rfl, hI.keep⟩)
theorem znY (b : Nat) (w : World) : Idle Tryz.prog 102 [pt b] w := by
  refine callsD_of_wpS Tryz.func102 rfl fun c₀ cs hu => wpS_seq ?_;apply wpS_region;simp [wpOpsS, go_sem, recoverD, hu, Tryz.ntmps102]
  show Code.wpS _ _ _ _ _ _;refine wpS_of_wp (WC.start (x := ⟨19, [], [], w⟩) (fr := [(0, pt b), (2, .nilIface)]) (D := fun _ => none) (hp := []) ?_ ?_)
  · exact ⟨⟨by simp, rfl, zn7 ⟨by simp, by simp, trivial⟩⟩, (Inv.start (by intro _ _ h; cases h))⟩
  refine g [[1],[2,0,2]] ?_;refine WL.yd (Yd.neqNilNil UnF.h rfl) rfl (g [[4]] ?_);exact WP.mk fun a w' hA => ⟨hA.f.defers, .returning, by cases c₀; simp only at hu; subst hu; rfl, .tuple #[], by simp [results, Tryz.results102], ⟨_, rfl⟩, rfl, hA.i.keep⟩
theorem znk (b : Nat) (e v0 : Int) (t : TypeId) (w : World) (hb : w.heap[b]? = some (.cells (List.toArray [it v0]) t (0, 0))) : uw Tryz.prog 102 [pt b] (.iface 292 (it e)) b (.cells (List.toArray [it e]) t (0, 0)) w := by
  refine callsD_of_wpS Tryz.func102 rfl fun c₀ cs hu => wpS_seq ?_;apply wpS_region;simp [wpOpsS, go_sem, recoverD, hu, Tryz.ntmps102]
  show Code.wpS _ _ _ _ _ _;refine wpS_of_wp (WC.start (x := ⟨19, [], [b], w⟩) (fr := [(0, pt b), (2, .iface 292 (it e))]) (D := fun _ => none) (hp := [(b, .cells (List.toArray [it v0]) t (0, 0))]) ?_ ?_)
  · exact ⟨⟨by simp, rfl, zn7 ⟨by simp, by simp, trivial⟩⟩, (Inv.one hb)⟩
  refine g [[1],[2,0,2]] ?_;refine WL.yd (Yd.neqNil UnF.h rfl) rfl (g [[4],[2,0,2]] ?_);refine WL.yd (Yd.assert UnF.h (by intro _ h; cases h) rfl) rfl (g [[9],[8,4,3,0,2],[6,3,0]] ?_);exact WP.mk fun a w' hA => ⟨hA.f.defers, .panicking [{ v := .iface 292 (it e), recovered := true }], rfl, .tuple #[], by simp [results, Tryz.results102], ⟨_, rfl⟩, rfl, hA.i.keep, hA.i.own _ _ (List.mem_of_getElem? (i := 0) rfl)⟩
theorem zmM (n lo hi : Int) (w : World) : z8 Tryz.prog 173 [it n, it lo, it hi] w (.bool (inB n lo hi)) := by
  unfold z8;refine en Tryz.func173 rfl Tryz.ntmps173 zI (g [[1],[5,0,1,2],[5,6,0,1,2]] ?_);refine WL.part 10 rfl (fun g10 => ?_) (fun g10 => ?_)
  · try simp only [zq] at g10
    refine g [[8]] ?_;refine WP.ret1 rfl rfl rfl (RV.tmp rfl) (fun w hI => ⟨zb (by rw [Bool.eq_iff_iff]; simp [inB]; omega), hI.keep⟩)
  try simp only [zq] at g10
  refine g [[8]] ?_;refine WP.ret1 rfl rfl rfl (RV.tmp rfl) (fun w hI => ⟨zb (by rw [Bool.eq_iff_iff]; simp [inB]; omega), hI.keep⟩)
theorem btN {n : Nat} (h : n < 256) : bt (UInt8.ofNat n) = .int .u8 (n : Int) := by
  show Value.int .u8 _ = _;rw [UInt8.toNat_ofNat_of_lt' h]
section
variable (b p q pl n : Nat) (t : TypeId) (hp : p < 251) (hq : q < 251) (hpl : pl ≤ 2 ^ 20) (hn : n ≤ 600) (D : Imm) (w : World) (hI : Inv D [(b, .cells (List.toArray [nt p, nt q]) t (0, 0))] [b] w w)
include b p q pl n t hp hq hpl hn D w hI
theorem zxG : wP Tryz.prog 291 [pt b, nt pl, nt n] w D [b] (fun _ D' h' => D = D' ∧ h' = [(b, .cells (List.toArray [nt ((p + n) % 251), nt ((q + pl % 251 * n) % 251)]) t (0, 0))]) := by
  unfold wP;refine en Tryz.func291 rfl Tryz.ntmps291 hI (g [[1],[8,0,1,2]] ?_);refine WL.yd (Yd.add rfl rfl (wr64 ⟨by first | omega | (rw [h7]; omega), by first | omega | (rw [h7]; omega)⟩)) rfl ?_;refine WL.yd (Yd.rem rfl rfl (by first | omega | (rw [h7]; omega)) (by first | omega | (rw [h7]; omega))) rfl ?_;refine WL.know 14 (nt ((p + n) % 251)) rfl (by simp) (g [[6],[8,0,1,2]] ?_);have h9 : pl % 251 * n ≤ 250 * 600 := Nat.mul_le_mul (by omega) hn;have h7 : ((pl : Int) % 251) * (n : Int) = ((pl % 251 * n : Nat) : Int) := by simp
  refine WL.yd (Yd.rem rfl rfl (by first | omega | (rw [h7]; omega)) (by first | omega | (rw [h7]; omega))) rfl (g [[1]] ?_);refine WL.yd (Yd.mul rfl rfl (wr64 ⟨by first | omega | (rw [h7]; omega), by first | omega | (rw [h7]; omega)⟩)) rfl ?_;refine WL.yd (Yd.add rfl rfl (wr64 ⟨by first | omega | (rw [h7]; omega), by first | omega | (rw [h7]; omega)⟩)) rfl ?_;refine WL.yd (Yd.rem rfl rfl (by first | omega | (rw [h7]; omega)) (by first | omega | (rw [h7]; omega))) rfl ?_;refine WL.know 29 (nt ((q + pl % 251 * n) % 251)) rfl (by simp) (g [[5]] ?_);refine WP.ret0 rfl rfl rfl  (fun w1 hI => ⟨_, D, _, rfl, DExt.refl _ _, hI, (fun _ h => h), rfl, rfl⟩)
theorem zB7 : wP Tryz.prog 290 [pt b, nt pl, nt n] w D [b] (fun _ D' h' => D = D' ∧ h' = [(b, .cells (List.toArray [nt ((p + (251 - n % 251)) % 251), nt ((q + pl % 251 * (251 - n % 251)) % 251)]) t (0, 0))]) := by
  unfold wP;refine en Tryz.func290 rfl Tryz.ntmps290 hI (g [[6,0,1,2]] ?_);refine WL.yd (Yd.rem rfl rfl (by omega) (by omega)) rfl (g [[1]] ?_);refine WL.know 12 (nt (251 - n % 251)) rfl (by congr 1; omega) ?_;refine WL.so (SO.altersF (own := []) (hpc := [_]) (S1 := [b]) rfl (fun _ h => h) (fun _ h => h) (Enters.func CaF.h rfl) (fun w1 hI => zxG b p q pl (251 - n % 251) t hp hq hpl (by omega) D w1 hI)) rfl ?_;rintro _ _ _ ⟨_, hX9, ⟨rfl, rfl⟩, rfl⟩;refine g [[1]] ?_;refine WP.ret0 rfl rfl rfl  (fun w1 hI => ⟨_, D, _, rfl, DExt.refl _ _, hI, (fun _ h => h), rfl, rfl⟩)
end
theorem zvw : ∀ (l : Bs) (i p q : Nat), p < 251 → q < 251 → (sumF i p q l).1 < 251 ∧ (sumF i p q l).2 < 251
  | [], _, _, _, h1, h2 => ⟨h1, h2⟩
  | x :: r, i, p, q, h1, h2 => zvw r (i + 1) _ _ (Nat.mod_lt _ (by omega)) (Nat.mod_lt _ (by omega))
theorem zvC : ∀ (l : Bs) (i p q : Nat), p < 251 → q < 251 → (takF i p q l).1 < 251 ∧ (takF i p q l).2 < 251
  | [], _, _, _, h1, h2 => ⟨h1, h2⟩
  | x :: r, i, p, q, h1, h2 => zvC r (i + 1) _ _ (Nat.mod_lt _ (by omega)) (Nat.mod_lt _ (by omega))
theorem zpx {α : Type} [Inhabited α] {l : List α} {k : Nat} (h : k < l.length) : l.drop k = gt l k :: l.drop (k + 1) := by
  rw [List.drop_eq_getElem_cons h]; simp [gt, List.getD, h]
section
variable (l : Bs) (a : Option Addr) (n c : Nat) (D : Imm) (hS : SlL D 1 (l.map btC) a n) (hn : n ≤ 2 ^ 19)
include l a n c D hS hn
section
variable (b p q : Nat) (hp : p < 251) (hq : q < 251) (w : World)
include b p q hp hq w
theorem zy9 (hI : Inv D [(b, .cells (List.toArray [nt p, nt q]) 118 (0, 0))] [b] w w) : wP Tryz.prog 55 [.iface 218 (pt b), .slice a n c] w D [b] (fun _ D' h' => D = D' ∧ h' = [(b, .cells (List.toArray [nt (sumF 0 p q l).1, nt (sumF 0 p q l).2]) 118 (0, 0))]) := by
  unfold wP;obtain rfl : n = l.length := hS.len';refine en Tryz.func55 rfl Tryz.ntmps55 hI (g [[1],[7,0,1]] ?_);refine WC.loopT [] (fun y : Nat × Nat × Nat => [(0, .iface 218 (pt b)), (6, .slice a l.length c), (7, nt l.length), (8, nt y.1)]) (fun y => [(b, .cells (List.toArray [nt y.2.1, nt y.2.2]) 118 (0, 0))]) (fun y => y.1 ≤ l.length ∧ y.2.1 < 251 ∧ y.2.2 < 251 ∧ sumF y.1 y.2.1 y.2.2 (l.drop y.1) = sumF 0 p q l) (fun y => l.length - y.1) (0, p, q) ⟨Nat.zero_le _, hp, hq, rfl⟩ rfl ⟨rfl, rfl, rfl, rfl, trivial⟩ ?_;rintro ⟨k, p1, q1⟩ ⟨hk, hp1, hq1, hF⟩;dsimp only at hk hp1 hq1 hF;refine g [[1],[5,0,6,7,8]] ?_;refine WC.cond rfl (fun c9 => ?_) (fun c9 => ?_)
  · try simp only [zq] at c9
    have hkl : k < l.length := by omega
    have hb8 := (gt l k).toNat_lt;refine g [[5],[2,0,6,7,8]] ?_;refine WL.yd (Yd.indexS UnF.h SzF.h rfl rfl (by (try dsimp only); omega) (by (try dsimp only); omega) (hS.addr k (by omega))) rfl ?_;refine WL.yd (Yd.l1 rfl ((hS.at k (by omega)).rd 0 rfl)) rfl (g [[4],[3,5,4,0,6,7,8]] ?_);refine WL.yd (Yd.add rfl rfl (wr64 ⟨by (try dsimp only); omega, by (try dsimp only); omega⟩)) rfl (g [[1]] ?_);refine WL.yd (Yd.conv UnF.h UnF.h rfl (wr64 ⟨by omega, by omega⟩)) rfl (WL.so (SO.altersF (own := []) (hpc := [_]) (S1 := [b]) rfl (fun _ h => h) (fun _ h => h) (Enters.meth CaF.h (fun w => by kernel_rfl) rfl rfl) (fun w1 hI => zxG b p1 q1 (k + 1) (gt l k).toNat _ hp1 hq1 (by omega) (by omega) D w1 hI)) rfl ?_);rintro _ _ _ ⟨_, hX9, ⟨rfl, rfl⟩, rfl⟩;refine g [[3],[1,0,6,7,8]] ?_;refine WL.yd (Yd.add rfl rfl (wr64 ⟨by (try dsimp only); omega, by (try dsimp only); omega⟩)) rfl (g [[2]] ?_);exact WP.againT (k + 1, ((p1 + (gt l k).toNat) % 251), ((q1 + (k + 1) % 251 * (gt l k).toNat) % 251)) ⟨hkl, Nat.mod_lt _ (by omega), Nat.mod_lt _ (by omega), by rw [zpx hkl] at hF; exact hF⟩ (by dsimp only; omega) [] _ rfl rfl ⟨rfl, rfl, rfl, rfl, trivial⟩
  try simp only [zq] at c9
  obtain rfl : k = l.length := by omega
  refine g [[4]] ?_;refine WP.ret0 rfl rfl rfl  (fun w1 hI => ⟨_, D, _, rfl, DExt.refl _ _, hI, (fun _ h => h), rfl, by rw [List.drop_length] at hF; rw [← hF]; rfl⟩)
theorem zya (hI : Inv D [(b, .cells (List.toArray [nt p, nt q]) 120 (0, 0))] [b] w w) : wP Tryz.prog 55 [.iface 122 (pt b), .slice a n c] w D [b] (fun _ D' h' => D = D' ∧ h' = [(b, .cells (List.toArray [nt (takF 0 p q l).1, nt (takF 0 p q l).2]) 120 (0, 0))]) := by
  unfold wP;obtain rfl : n = l.length := hS.len';refine en Tryz.func55 rfl Tryz.ntmps55 hI (g [[1],[7,0,1]] ?_);refine WC.loopT [] (fun y : Nat × Nat × Nat => [(0, .iface 122 (pt b)), (6, .slice a l.length c), (7, nt l.length), (8, nt y.1)]) (fun y => [(b, .cells (List.toArray [nt y.2.1, nt y.2.2]) 120 (0, 0))]) (fun y => y.1 ≤ l.length ∧ y.2.1 < 251 ∧ y.2.2 < 251 ∧ takF y.1 y.2.1 y.2.2 (l.drop y.1) = takF 0 p q l) (fun y => l.length - y.1) (0, p, q) ⟨Nat.zero_le _, hp, hq, rfl⟩ rfl ⟨rfl, rfl, rfl, rfl, trivial⟩ ?_;rintro ⟨k, p1, q1⟩ ⟨hk, hp1, hq1, hF⟩;dsimp only at hk hp1 hq1 hF;refine g [[1],[5,0,6,7,8]] ?_;refine WC.cond rfl (fun c9 => ?_) (fun c9 => ?_)
  · try simp only [zq] at c9
    have hkl : k < l.length := by omega
    have hb8 := (gt l k).toNat_lt;refine g [[5],[2,0,6,7,8]] ?_;refine WL.yd (Yd.indexS UnF.h SzF.h rfl rfl (by (try dsimp only); omega) (by (try dsimp only); omega) (hS.addr k (by omega))) rfl ?_;refine WL.yd (Yd.l1 rfl ((hS.at k (by omega)).rd 0 rfl)) rfl (g [[4],[3,5,4,0,6,7,8]] ?_);refine WL.yd (Yd.add rfl rfl (wr64 ⟨by (try dsimp only); omega, by (try dsimp only); omega⟩)) rfl (g [[1]] ?_);refine WL.yd (Yd.conv UnF.h UnF.h rfl (wr64 ⟨by omega, by omega⟩)) rfl (WL.so (SO.altersF (own := []) (hpc := [_]) (S1 := [b]) rfl (fun _ h => h) (fun _ h => h) (Enters.meth CaF.h (fun w => by kernel_rfl) rfl rfl) (fun w1 hI => zB7 b p1 q1 (k + 1) (gt l k).toNat _ hp1 hq1 (by omega) (by omega) D w1 hI)) rfl ?_);rintro _ _ _ ⟨_, hX9, ⟨rfl, rfl⟩, rfl⟩;refine g [[3],[1,0,6,7,8]] ?_;refine WL.yd (Yd.add rfl rfl (wr64 ⟨by (try dsimp only); omega, by (try dsimp only); omega⟩)) rfl (g [[2]] ?_);exact WP.againT (k + 1, ((p1 + (251 - (gt l k).toNat % 251)) % 251), ((q1 + (k + 1) % 251 * (251 - (gt l k).toNat % 251)) % 251)) ⟨hkl, Nat.mod_lt _ (by omega), Nat.mod_lt _ (by omega), by rw [zpx hkl] at hF; exact hF⟩ (by dsimp only; omega) [] _ rfl rfl ⟨rfl, rfl, rfl, rfl, trivial⟩
  try simp only [zq] at c9
  obtain rfl : k = l.length := by omega
  refine g [[4]] ?_;refine WP.ret0 rfl rfl rfl  (fun w1 hI => ⟨_, D, _, rfl, DExt.refl _ _, hI, (fun _ h => h), rfl, by rw [List.drop_length] at hF; rw [← hF]; rfl⟩)
end
theorem zqR (w : World) (hH : Holds D w) : z8 Tryz.prog 54 [.slice a n c] w (.agg #[nt (znq l).1, nt (znq l).2]) := by
  unfold z8;refine en Tryz.func54 rfl Tryz.ntmps54 (Inv.start hH) (g [[1],[1,0]] ?_);refine WL.so (SO.alloc ZvF.h rfl) rfl (zw fun b2 hb2 => ?_);refine g [[3],[1,2,0]] ?_;refine WL.so (SO.alloc ZvF.h rfl) rfl (zw fun b3 hb3 => ?_);refine g [[3],[3,3,2,0]] ?_;refine WL.so (SO.altersF (own := [_]) (hpc := [_]) (S1 := [b3]) rfl (fun _ h => h) (fun _ h => h) (Enters.func CaF.h rfl) (fun w1 hI => zy9 l a n c D hS hn b3 0 0 (by decide) (by decide) w1 hI)) rfl ?_;rintro _ _ _ ⟨_, hX9, ⟨rfl, rfl⟩, rfl⟩;refine g [[3],[7,3,2]] ?_;refine WP.ret1 rfl rfl rfl (RV.cellN AgF.h SzF.h rfl (vs := [_, _]) rfl (RdN.own (k := 1) (n := 2) rfl rfl)) (fun w hI => ⟨rfl, hI.keep⟩)
end
theorem zxY (l : Bs) : ∀ v ∈ l.flatMap btC, v.oneCell' = true := fun v hv => by
  obtain ⟨b, _, hb⟩ := List.mem_flatMap.1 hv;simp only [btC, List.mem_singleton] at hb;rw [hb]; rfl
def hC (h : Hors) (k : Nat) : Bs := (digL h.pace.toNat ++ digL h.moves.length) ++ (h.moves.take k).flatMap fun m => (zHF m).flatMap digL
theorem zBk : zj Tryz.prog 113 [.int .i64 0, .int .i64 0] [(0, 1), (1, 1)] := ⟨⟨_, Tryz.zeroValue113, rfl⟩, _, Tryz.underlying113, fun w => by simp [Tryz.sizeOf3]⟩
abbrev zzy := SaF.mk zBk
attribute [instance] zzy
def big (x : UInt8) : Bool := decide (251 ≤ x.toNat)
def idxB (l : Bs) : Int := if l.any big = true then (l.findIdx big : Int) else -1
theorem zwy {l : Bs} {k : Nat} (hk : k < l.length) (h : (l.take k).any big = false) (hb : big (gt l k) = true) : idxB l = (k : Int) := by
  have e : gt l k = l[k] := by simp [gt, List.getD, hk]
  have h1 : l.any big = true := List.any_eq_true.2 ⟨gt l k, Ky hk, hb⟩
  have h2 : l.findIdx big = k := (List.findIdx_eq hk).2 ⟨e ▸ hb, fun j hj => by
    have := List.any_eq_false.1 h l[j] (by rw [List.mem_take_iff_getElem]; exact ⟨j, by omega, rfl⟩);simpa using this⟩
  unfold idxB; rw [if_pos h1, h2]
theorem zvY {l : Bs} {p : UInt8 → Bool} {k : Nat} (hk : k < l.length) : (l.take (k + 1)).any p = ((l.take k).any p || p (gt l k)) := by
  have e : gt l k = l[k] := by simp [gt, List.getD, hk]
  rw [List.take_succ_eq_append_getElem hk, List.any_append, e]; simp
theorem zsO (l : Bs) : decide (0 ≤ idxB l) = l.any big := by
  unfold idxB; split
  · rename_i h; rw [h]; simp
  rename_i h; rw [Bool.not_eq_true] at h; rw [h]; rfl
theorem zBU (x : UInt8) (w : World) : z8 Tryz.prog 125 [bt x] w (.bool (big x)) := by
  unfold z8;refine en Tryz.func125 rfl Tryz.ntmps125 zI (g [[1],[5,0],[7,2,0]] ?_);refine WP.ret1 rfl rfl rfl (RV.tmp rfl) (fun w hI => ⟨zb (by unfold big; rw [Bool.eq_iff_iff]; simp; omega), hI.keep⟩)
section
variable (l : Bs) (a : Option Addr) (n c : Nat) (D : Imm) (hS : SlL D 1 (l.map btC) a n) (hn : n ≤ 2 ^ 40) (w : World) (hH : Holds D w)
include l a n c D hS hn w hH
theorem zAy : z8 Tryz.prog 183 [.slice a n c, .func (.func 125) #[] #[]] w (it (idxB l)) := by
  unfold z8;obtain rfl : n = l.length := hS.len';refine en Tryz.func183 rfl Tryz.ntmps183 (Inv.start hH) (g [[1],[6,0,1],[7,4,0,1]] ?_);refine WC.loopF (fun k : Nat => [(0, .slice a l.length c), (1, .func (.func 125) #[] #[]), (6, .slice a l.length c), (7, nt l.length), (8, nt k)]) (fun k => k ≤ l.length ∧ (l.take k).any big = false) (fun k => l.length - k) 0 ⟨Nat.zero_le _, rfl⟩ ⟨rfl, rfl, rfl, rfl, rfl, trivial⟩ ?_;rintro k ⟨hk, hany⟩;refine g [[1],[5,0,1,6,7,8]] ?_;refine WC.cond rfl (fun c9 => ?_) (fun c9 => ?_)
  · try simp only [zq] at c9
    have hkl : k < l.length := by omega
    refine g [[5],[6,0,1,6,7,8],[4,5,0,1,6,7,8]] ?_;refine WL.yd (Yd.ix rfl rfl (hS.addr k (by omega))) rfl (WL.yd (Yd.l1 rfl ((hS.at k (by omega)).rd 0 rfl)) rfl ?_);refine WL.so (SO.call (Enters.val CaF.h rfl rfl) (fun w hI => zBU (gt l k) _)) rfl (zs (g [[2]] ?_));refine WC.cond rfl (fun c16 => ?_) (fun c16 => ?_)
    · refine g [[1],[11,5,0,1,6,7,8]] ?_;refine WP.ret1 rfl rfl rfl (RV.tmp rfl) (fun w hI => ⟨by rw [zwy hkl hany c16], hI.keep⟩)
    refine g [[3],[4,0,1,6,7,8]] ?_;exact WP.againF (k + 1) ⟨hkl, by rw [zvY hkl, hany, c16]; rfl⟩ (by omega) ⟨rfl, rfl, rfl, rfl, rfl, trivial⟩ (fun _ h => nomatch h) (fun _ => List.nodup_nil)
  try simp only [zq] at c9
  obtain rfl : k = l.length := by omega
  rw [List.take_length] at hany;refine g [[6]] ?_;refine WC.ofFr [] trivial (g [[5]] ?_);refine WP.ret1 rfl rfl rfl (RV.tmp rfl) (fun w hI => ⟨by unfold idxB; rw [if_neg (by rw [hany]; simp)], hI.keep⟩)
theorem zxq : z8 Tryz.prog 124 [.slice a n c, .func (.func 125) #[] #[]] w (.bool (l.any big)) := by
  unfold z8;refine en Tryz.func124 rfl Tryz.ntmps124 (Inv.start hH) (g [[1],[5,0,1],[3,4,0,1]] ?_);refine WL.cl rfl (fun w hI => zAy l a n c D hS hn _ hI.imm) (g [[5]] ?_);refine WP.ret1 rfl rfl rfl (RV.tmp rfl) (fun w hI => ⟨zb (by first | exact zsO l | (rw [← zsO l]; rfl)), hI.keep⟩)
end
theorem ztJ {l : Bs} (h : 250 < l.length) : zng l = 3 := by unfold zng; rw [if_pos h]
theorem zwP {l : Bs} (h : l.length ≤ 250) (h2 : 2 ≤ l.length) (h3 : l.any big = false) : zng l = 0 := by
  unfold zng; rw [if_neg (by omega), if_pos ⟨h2, h3⟩]
theorem zq7 {l : Bs} (h : l.length ≤ 250) (h2 : 2 ≤ l.length → l.any big = true) : zng l = 8 := by
  unfold zng;rw [if_neg (by omega), if_neg];rintro ⟨h3, h4⟩;have : l.any big = false := h4
  rw [h2 h3] at this; cases this
theorem zoU {l : Bs} (h : zng l = 0) : l.length ≤ 250 ∧ 2 ≤ l.length ∧ l.any big = false := by
  unfold zng at h;split at h
  · cases h
  split at h
  · rename_i h1 h2; exact ⟨by omega, h2⟩
  cases h
theorem zql {D : Imm} {l : Bs} {a : Option Addr} {n : Nat} (hS : SlL D 1 (l.map btC) a n) : SlL D 1 ((zmW l).map btC) a (n - 2) := by
  have := hS.take (k := n - 2) (by omega);unfold zmW;rw [List.map_take, ← hS.len']; exact this
section
variable (l : Bs) (a : Option Addr) (n c : Nat) (D : Imm) (hS : SlL D 1 (l.map btC) a n) (hn : n ≤ 2 ^ 40) (hc : n ≤ c)
include l a n c D hS hn hc
theorem x4 (h0 : zng l = 0) (w : World) (hH : Holds D w) : z8 Tryz.prog 53 [.slice a n c] w (.tuple #[.slice a (n - 2) c, .agg #[nt (zom l).1, nt (zom l).2]]) := by
  unfold z8;obtain rfl : n = l.length := hS.len';have ho := zoU h0;refine en Tryz.func53 rfl Tryz.ntmps53 (Inv.start hH) (g [[1],[2,0]] ?_);refine WL.so (SO.alloc ZvF.h rfl) rfl (zw fun b3 hb3 => ?_);refine g [[3],[4,3,2,0]] ?_;refine WL.know 7 (.bool true) rfl (congrArg Value.bool (decide_eq_true (by omega))) (WL.cl rfl (fun w hI => zmq _ _) (g [[3],[4,3,2,0]] ?_));refine WL.know 11 (.bool true) rfl (congrArg Value.bool (decide_eq_true (by omega))) (g [[2]] ?_);refine WL.sog rfl (SO.callP CaF.h rfl (fun w hI => zxq l a l.length c D hS hn _ hI.imm)) rfl (zs (g [[1]] ?_));refine WL.know 15 (.bool true) rfl (by rw [ho.2.2]; rfl) (g [[1]] ?_);refine WL.cl rfl (fun w hI => zmq _ _) (g [[3],[4,3,2,0]] ?_);refine WL.know 20 (nt (l.length - 2)) rfl (by congr 1; omega) (g [[4],[0,4,3,2,0]] ?_);refine WC.drawO [] (pz [1,3,5,7,9,11,13,15,17,19,21,23,25,27,29,31,32]) zk zk zX (fun _ hI => Inv.nil hI) ?_;have hb1 := (gt l (l.length - 2)).toNat_lt;have hb2 := (gt l (l.length - 1)).toNat_lt;refine g [[2]] ?_;refine WA.yd rfl (Yd.sliceTo Tryz.underlying27 Tryz.sizeOf5 rfl rfl (by omega)) rfl (g [[2]] ?_);refine WA.yd rfl (Yd.ix rfl rfl (hS.addr (l.length - 2) (by omega))) rfl (WA.yd rfl (Yd.l1 rfl ((hS.at (l.length - 2) (by omega)).rd 0 rfl)) rfl ?_);refine WA.yd rfl (Yd.conv UnF.h UnF.h rfl (wr64 ⟨by omega, by omega⟩)) rfl (g [[3]] ?_);refine WA.know 31 (nt (l.length - 1)) rfl (by congr 1; omega) ?_;refine WA.yd rfl (Yd.ix rfl rfl (hS.addr (l.length - 2) (by omega))) rfl (WA.yd rfl (Yd.l1 rfl ((hS.at (l.length - 1) (by omega)).rd 0 rfl)) rfl ?_);refine WA.yd rfl (Yd.conv UnF.h UnF.h rfl (wr64 ⟨by omega, by omega⟩)) rfl (g [[2]] ?_);refine WA.so rfl (SO.store 0 rfl SzF.h rfl rfl rfl rfl (zqb rfl) (za rfl)) rfl ?_;rintro _ _ _ ⟨rfl, rfl, rfl⟩;refine ⟨fun _ hI => Inv.nil hI, ?_⟩;refine g [[3]] ?_;refine WP.ret2 rfl rfl rfl (RV.tmp rfl) (RV.cellN AgF.h SzF.h rfl (vs := [_, _]) rfl (RdN.own (k := 0) (n := 2) rfl rfl)) (fun w hI => ⟨rfl, hI.keep⟩)
theorem zyW (h0 : zng l ≠ 0) (w : World) (hH : Holds D w) : xC Tryz.prog 53 [.slice a n c] w (znX (zng l)) := by
  unfold xC;obtain rfl : n = l.length := hS.len';refine en Tryz.func53 rfl Tryz.ntmps53 (Inv.start hH) (g [[1],[2,0]] ?_);refine WL.so (SO.alloc ZvF.h rfl) rfl (zw fun b3 hb3 => ?_);refine g [[3],[4,3,2,0]] ?_;refine WL.part 7 rfl (fun g7 => ?_) (fun g7 => ?_)
  · try simp only [zq] at g7
    refine WL.cl rfl (fun w hI => zmq _ _) (g [[3],[5,3,2,0]] ?_);refine WL.part 12 rfl (fun g12 => ?_) (fun g12 => ?_)
    · try simp only [zq] at g12
      refine g [[1]] ?_;refine WL.sog rfl (SO.callP CaF.h rfl (fun w hI => zxq l a l.length c D hS hn _ hI.imm)) rfl (zs (g [[2]] ?_));refine WL.part 16 rfl (fun g16 => ?_) (fun g16 => ?_)
      · try simp only [zq] at g16
        exact absurd (zwP (l := l) (by omega) (by omega) (by simpa using g16)) h0;skip
      try simp only [zq] at g16
      refine WL.nf rfl (fun w hI => qs _ _) (g [[1]] ?_);refine WP.panicBody rfl (fun w hI => ⟨by rw [zq7 (l := l) (by omega) (fun h => by first | (simpa using g16) | omega)], hI.keep⟩)
    try simp only [zq] at g12
    refine g [[4]] ?_;refine WL.nf rfl (fun w hI => qs _ _) (g [[1]] ?_);refine WP.panicBody rfl (fun w hI => ⟨by rw [zq7 (l := l) (by omega) (fun h => by first | (simpa using g16) | omega)], hI.keep⟩)
  try simp only [zq] at g7
  refine WL.nf rfl (fun w hI => qs _ _) (g [[1]] ?_);refine WP.panicBody rfl (fun w hI => ⟨by rw [ztJ (by omega)], hI.keep⟩)
end
theorem zwU {a b k : Nat} (hk : k < 251) (h : ∀ j, j < k → j * b % 251 ≠ a) (hh : k * b % 251 = a) : quoN a b = k := by
  have : (List.range 251).find? (fun q => q * b % 251 == a) = some k := by
    rw [List.find?_range_eq_some];exact ⟨by simpa using hh, List.mem_range.2 hk, fun j hj => by simpa using h j hj⟩
  unfold quoN; rw [this]; rfl
theorem zvi {a b : Nat} (h : ∀ j, j < 251 → j * b % 251 ≠ a) : quoN a b = 0 := by
  have : (List.range 251).find? (fun q => q * b % 251 == a) = none := by
    rw [List.find?_range_eq_none];intro j hj; simpa using h j hj
  unfold quoN; rw [this]; rfl
theorem zHI (a b : Nat) (ha : a < 251) (hb : b < 251) (w : World) : z8 Tryz.prog 56 [nt a, nt b] w (nt (quoN a b)) := by
  unfold z8;refine en Tryz.func56 rfl Tryz.ntmps56 zI (g [[1],[6,0,1],[5,4,0,1]] ?_);refine WC.loopF (fun k : Nat => [(0, nt a), (1, nt b), (6, nt k)]) (fun k => k ≤ 251 ∧ ∀ j, j < k → j * b % 251 ≠ a) (fun k => 251 - k) 0 ⟨Nat.zero_le _, fun _ h => absurd h (Nat.not_lt_zero _)⟩ ⟨rfl, rfl, rfl, trivial⟩ ?_;rintro k ⟨hk, hF⟩;refine g [[1],[5,0,1,6]] ?_;refine WC.cond rfl (fun c7 => ?_) (fun c7 => ?_)
  · try simp only [zq] at c7
    have hkl : k < 251 := by omega
    refine g [[5],[6,0,1,6],[3,5,0,1,6]] ?_;have hkb : k * b ≤ 250 * 250 := Nat.mul_le_mul (by omega) (by omega);have hkz : (k : Int) * (b : Int) = ((k * b : Nat) : Int) := by simp
    refine WL.yd (Yd.mul rfl rfl (wr64 ⟨by (try dsimp only); omega, by (try dsimp only); omega⟩)) rfl ?_;refine WL.know 11 (nt (k * b)) rfl (by congr 1) ?_;refine WL.yd (Yd.rem rfl rfl (by (try dsimp only); omega) (by (try dsimp only); omega)) rfl (g [[4]] ?_);refine WC.cond rfl (fun c14 => ?_) (fun c14 => ?_)
    · try simp only [zq] at c14
      refine g [[1],[11,5,0,1,6]] ?_;refine WP.ret1 rfl rfl rfl (RV.tmp rfl) (fun w hI => ⟨by rw [zwU hkl hF (by omega)], hI.keep⟩)
    try simp only [zq] at c14
    refine g [[3],[1,0,1,6]] ?_;refine WL.yd (Yd.add rfl rfl (wr64 ⟨by (try dsimp only); omega, by (try dsimp only); omega⟩)) rfl (g [[2]] ?_);exact WP.againF (k + 1) ⟨by omega, fun j hj => by rcases Nat.lt_or_ge j k with h | h; exact hF j h; obtain rfl : j = k := (by omega); omega⟩ (by omega) ⟨rfl, rfl, rfl, trivial⟩ (fun _ h => nomatch h) (fun _ => List.nodup_nil)
  try simp only [zq] at c7
  obtain rfl : k = 251 := by omega
  refine g [[6]] ?_;refine WC.ofFr [] trivial (g [[5]] ?_);refine WP.ret1 rfl rfl rfl (RV.tmp rfl) (fun w hI => ⟨by rw [zvi hF]; rfl, hI.keep⟩)
theorem zAk (a b c d : Nat) : ∀ w, (Op.equalIn 10000 113 (.agg #[nt a, nt b]) (.agg #[nt c, nt d])).run Tryz.prog w = .ok (decide ((a, b) = (c, d))) w := by
  intro w
  have h1 : (Op.equalIn 10000 113 (.agg #[nt a, nt b]) (.agg #[nt c, nt d])).run Tryz.prog w = .ok (a == c && b == d) w := by
    simp [go_sem, Op.eqFields];by_cases h : a = c
    · subst h;by_cases h' : b = d
      · subst h'; simp
      rw [if_pos rfl, if_neg (by omega)]; simp [h']
    rw [if_neg (by omega)]; simp [h]
  have h2 : (a == c && b == d) = decide ((a, b) = (c, d)) := by
    rw [Bool.eq_iff_iff]; simp only [Bool.and_eq_true, beq_iff_eq, decide_eq_true_eq, Prod.mk.injEq]
  rw [h1, h2]
theorem SA24 : zj Tryz.prog 24 [.int .i64 0, .slice none 0 0] [(0, 1), (1, 1)] := ⟨⟨_, Tryz.zeroValue24, rfl⟩, _, Tryz.underlying24, fun w => by simp [Tryz.sizeOf3, Tryz.sizeOf22]⟩
abbrev zdt := SaF.mk SA24
attribute [instance] zdt
theorem zBj : zj Tryz.prog 111 [.int .i64 0, .int .i64 0, .int .i64 0, .int .i64 0] [(0, 1), (1, 1), (2, 2)] := ⟨⟨_, Tryz.zeroValue111, rfl⟩, _, Tryz.underlying111, fun w => by simp [Tryz.sizeOf3, Tryz.sizeOf81]⟩
abbrev zzx := SaF.mk zBj
attribute [instance] zzx
theorem zP {α : Type} [Inhabited α] {l : List α} {k : Nat} (h : k < l.length) : l.take (k + 1) = l.take k ++ [gt l k] := by
  have e : gt l k = l[k] := by simp [gt, List.getD, h]
  rw [List.take_succ_eq_append_getElem h, e]
theorem zsj {b : Bs} (h : zng b = 0) : (zom b).1 < 251 ∧ (zom b).2 < 251 := by
  obtain ⟨h1, h2, h3⟩ := zoU h
  have key : ∀ i, i < b.length → (gt b i).toNat < 251 := fun i hi => by
    have := List.any_eq_false.1 h3 _ (Ky hi);unfold big at this; rw [decide_eq_true_eq] at this; omega
  exact ⟨key (b.length - 2) (by omega), key (b.length - 1) (by omega)⟩
theorem zw3 {b : Bs} (h : zng b = 0) : (zmW b).length = b.length - 2 := by unfold zmW; simp
theorem zBl : zj Tryz.prog 118 [.int .i64 0, .int .i64 0] [(0, 2)] := ⟨⟨_, Tryz.zeroValue118, rfl⟩, _, Tryz.underlying118, fun w => by simp [Tryz.sizeOf113]⟩
abbrev zzz := SaF.mk zBl
attribute [instance] zzz
theorem zBm : zj Tryz.prog 120 [.int .i64 0, .int .i64 0] [(0, 2)] := ⟨⟨_, Tryz.zeroValue120, rfl⟩, _, Tryz.underlying120, fun w => by simp [Tryz.sizeOf118]⟩
abbrev zzA := SaF.mk zBm
attribute [instance] zzA
theorem xz (cs vs : List Value) (h : vs.length = cs.length) : splice cs 0 vs = vs ++ [] := by simp [splice, h]
section
variable {b : Bs}
include b
theorem zoR (h : zng b ≠ 0) : znx b = ([], zng b) := if_pos h
section
variable (h : zng b = 0)
include h
theorem zoS (h2 : zom b = znq (zmW b)) : znx b = ([], 4) := by unfold znx; rw [if_neg (by omega), if_pos h2]
section
variable (h2 : zom b ≠ znq (zmW b))
include h2
theorem zpG (h3 : (zmr b).2 = 0) : znx b = (b.set (b.length - 2) (UInt8.ofNat (znq (zmW b)).1), 0) := by
  unfold znx; rw [if_neg (by omega), if_neg h2, if_pos h3]
section
variable (h3 : (zmr b).2 ≠ 0)
include h3
theorem zpH (h4 : (zmr b).1 = 0) : znx b = (b.set (b.length - 1) (UInt8.ofNat (znq (zmW b)).2), 0) := by
  unfold znx; rw [if_neg (by omega), if_neg h2, if_neg h3, if_pos h4]
theorem zoQ (h4 : (zmr b).1 ≠ 0) (h5 : 1 ≤ quoN (zmr b).2 (zmr b).1 ∧ quoN (zmr b).2 (zmr b).1 ≤ b.length - 2) :
    znx b = (b.set (quoN (zmr b).2 (zmr b).1 - 1) (UInt8.ofNat (((b.getD (quoN (zmr b).2 (zmr b).1 - 1) 0).toNat + (zmr b).1) % 251)), 0) := by
  unfold znx; rw [if_neg (by omega), if_neg h2, if_neg h3, if_neg h4, if_pos h5]
theorem znB (h4 : (zmr b).1 ≠ 0) (h5 : ¬ (1 ≤ quoN (zmr b).2 (zmr b).1 ∧ quoN (zmr b).2 (zmr b).1 ≤ b.length - 2)) : znx b = ([], 11) := by
  unfold znx; rw [if_neg (by omega), if_neg h2, if_neg h3, if_neg h4, if_neg h5]
end
end
theorem zyC : (zmr b).1 < 251 ∧ (zmr b).2 < 251 := zvC _ _ _ _ (zsj h).1 (zsj h).2
end
end
theorem zA8 (l : Bs) (a : Option Addr) (n c : Nat) (D : Imm) (hS : SlL D 1 (l.map btC) a n) (hn : n ≤ 2 ^ 19) (hc : n ≤ c) (w : World) (hH : Holds D w) : News Tryz.prog 9 [.slice a n c] w D (fun v D' h' => D = D' ∧ (((znx l).2 = 0 ∧ ∃ b, v = .tuple #[.slice (some ⟨b, 0, none⟩) (znx l).1.length (znx l).1.length, it 0] ∧ h' = [(b, .cells ((znx l).1.flatMap btC ++ []).toArray 5 (0, 0))] ∧ w.heap.size ≤ b) ∨ ((znx l).2 ≠ 0 ∧ (znx l).1 = [] ∧ v = .tuple #[.slice none 0 0, it (znx l).2] ∧ h' = []))) := by
  unfold News;obtain rfl : n = l.length := hS.len';refine enD Tryz.func9 rfl Tryz.ntmps9 (Inv.start hH) (g [[1],[2,0]] ?_);refine WL.so (SO.alloc ZvF.h rfl) rfl (zw fun b3 hb3 => ?_);refine g [[3],[1,3,2,0]] ?_;refine WL.deferA rfl (g [[3],[2,3,2,0]] ?_);rcases h0 : decide (zng l = 0) with _ | _
  · refine WL.nf rfl (fun w hI => zyW l a l.length c D hS (by omega) hc (by simpa using h0) _ hI.imm) (g [[1]] ?_);refine WP.panicDA (k := 0) [_, _] [_, _] rfl CaF.h rfl (fun w hI => k5 b3 _ 0 _ w (hI.own _ _ (List.mem_of_getElem? (i := 0) rfl))) rfl zV (fun w hI => ⟨_, _, [], rfl, DExt.refl _ _, Inv.nil hI, rfl, .inr ⟨by rw [zoR (by simpa using h0)]; first | decide | (simpa using h0), by rw [zoR (by simpa using h0)], by rw [zoR (by simpa using h0)]; rfl, rfl⟩⟩)
  skip;refine WL.cl rfl (fun w hI => x4 l a l.length c D hS (by omega) hc (by simpa using h0) _ hI.imm) (g [[3]] ?_);refine WL.so (SO.alloc ZvF.h rfl) rfl (zw fun b5 hb5 => ?_);refine g [[5],[0,4,5,3,2,0]] ?_;refine WC.drawD _ (pz [1,3,4,7,8]) zk zk zX zHl ?_;have h0' : zng l = 0 := by simpa using h0
  have ho2 := zoU h0';have hbl := zw3 h0';have htl := zsj h0';have hlk := zyC h0';have hsl := zvw (zmW l) 0 0 0 (by decide) (by decide);have hs1 : (znq (zmW l)).1 < 251 := hsl.1;have hs2 : (znq (zmW l)).2 < 251 := hsl.2;refine g [[2]] ?_;refine WA.so rfl (SO.callP CaF.h rfl (fun w hI => zqR (zmW l) a (l.length - 2) c _ (zql hS) (by omega) _ hI.imm)) rfl (zs ⟨zHl, ?_⟩);refine WA.yd rfl (Yd.neS EgF.h (zAk _ _ _ _) rfl rfl) rfl ?_;refine WA.part 19 rfl (fun g19 => ?_) (fun g19 => ?_)
  · try simp only [zq] at g19
    refine WA.so rfl (SO.call (Enters.func CaF.h rfl) (fun w hI => zmq _ _)) rfl (zs ⟨zHl, ?_⟩);refine g [[3],[1,4,5,3,2,0]] ?_;have hts : zom l ≠ znq (zmW l) := g19;refine g [[3]] ?_;refine WL.so (SO.alloc ZvF.h rfl) rfl (zw fun b6 hb6 => ?_);refine g [[4],[3,6,4,3,2,0]] ?_;refine WL.so (SO.altersF (own := [_, _]) (hpc := [_]) (S1 := [b6]) rfl (fun _ h => h) (fun _ h => h) (Enters.func CaF.h rfl) (fun w1 hI => zya (zmW l) a (l.length - 2) c D (zql hS) (by omega) b6 _ _ htl.1 htl.2 w1 hI)) rfl ?_;rintro _ _ _ ⟨_, hX9, ⟨rfl, rfl⟩, rfl⟩;rw [show takF 0 (zom l).1 (zom l).2 (zmW l) = zmr l from rfl];refine g [[3],[4,6,4,3,2,0]] ?_;refine WL.so (SO.alloc ZvF.h rfl) rfl (zw fun b7 hb7 => ?_);refine g [[4],[3,7,4,3,2,0]] ?_;refine WL.so (SO.makeSlice Tryz.underlying27 Tryz.sizeOf5 Tryz.typeInfo5 Tryz.zeroValue5 rfl rfl rfl (by omega) (by show (1 : Int) * _ ≤ _; omega)) rfl ?_;rintro _ _ _ ⟨b32, hb32, rfl, rfl, rfl⟩;refine g [[4],[3,8,7,4,3,2,0]] ?_;refine WL.so (SO.copy (k := 0) (cs := xI [.int .u8 0] (l.length * 1)) rfl Tryz.underlying27 Tryz.sizeOf5 rfl rfl rfl (ys := l.flatMap btC) (hS.rdS znK (fun e => by subst e; simp at ho2)) (zxY _) (by rw [yz, zr znK]; exact Nat.le_refl _)) rfl ?_;rintro _ _ _ ⟨rfl, rfl⟩;rw [xz (xI [.int .u8 0] (l.length * 1)) (l.flatMap btC) (by rw [yz, zr znK])];refine g [[3],[9,8,7,4,3,2],[7,9,8,7,4,3,2]] ?_;refine WC.cond rfl (fun c66 => ?_) (fun c66 => ?_)
    · try simp only [zq] at c66
      have hl2 : (zmr l).2 = 0 := by omega
      refine g [[4,9,8,4,3,2]] ?_;refine WL.cl rfl (fun w hI => zqR (zmW l) a (l.length - 2) c _ (zql hS) (by omega) _ hI.imm) (WL.yd (Yd.field (cs := [nt (znq (zmW l)).1, nt (znq (zmW l)).2]) Tryz.underlying113 rfl Tryz.isAgg3 rfl rfl) rfl ?_);refine WL.yd (Yd.conv UnF.h UnF.h rfl (wr8 ⟨by (try dsimp only); omega, by (try dsimp only); omega⟩)) rfl ?_;refine WL.know 75 (bt (UInt8.ofNat (znq (zmW l)).1)) rfl (btN (by omega)).symm ?_;refine WL.yd (Yd.indexS UnF.h SzF.h rfl rfl (by (try dsimp only); omega) (by (try dsimp only); omega) (rfl)) rfl ?_;refine WL.so (SO.storeRow (f := btC) (m := 1) znK (l := l) (i := l.length - 2) (y := UInt8.ofNat (znq (zmW l)).1) (rest := []) 0 rfl SzF.h rfl rfl rfl (by omega) (za rfl)) rfl ?_;rintro _ _ _ ⟨rfl, rfl, rfl⟩;refine g [[4],[7,8,3,2]] ?_;refine WP.endDA [_, _] [_, _] rfl rfl CaF.h (fun w hI => zmt b3 w) rfl zV (fun w hI => ⟨_, _, _, rfl, DExt.refl _ _, Inv.left (l1 := [_]) hI, rfl, .inl ⟨by rw [zpG h0' hts hl2], b32, by rw [zpG h0' hts hl2, List.length_set]; rfl, by rw [zpG h0' hts hl2] <;> rfl, hb32⟩⟩)
    try simp only [zq] at c66
    have hl2 : (zmr l).2 ≠ 0 := by omega
    refine g [[1],[7,9,8,7,4,3,2]] ?_;refine WC.cond rfl (fun c77 => ?_) (fun c77 => ?_)
    · try simp only [zq] at c77
      have hl1 : (zmr l).1 = 0 := by omega
      refine g [[3,9,8,4,3,2]] ?_;refine WL.yd (Yd.add rfl rfl (wr64 ⟨by (try dsimp only); omega, by (try dsimp only); omega⟩)) rfl ?_;refine WL.know 83 (nt (l.length - 1)) rfl (by congr 1; omega) (g [[1]] ?_);refine WL.cl rfl (fun w hI => zqR (zmW l) a (l.length - 2) c _ (zql hS) (by omega) _ hI.imm) (WL.yd (Yd.field (cs := [nt (znq (zmW l)).1, nt (znq (zmW l)).2]) Tryz.underlying113 rfl Tryz.isAgg3 rfl rfl) rfl ?_);refine WL.yd (Yd.conv UnF.h UnF.h rfl (wr8 ⟨by (try dsimp only); omega, by (try dsimp only); omega⟩)) rfl ?_;refine WL.know 87 (bt (UInt8.ofNat (znq (zmW l)).2)) rfl (btN (by omega)).symm ?_;refine WL.yd (Yd.indexS UnF.h SzF.h rfl rfl (by (try dsimp only); omega) (by (try dsimp only); omega) (rfl)) rfl ?_;refine WL.so (SO.storeRow (f := btC) (m := 1) znK (l := l) (i := l.length - 1) (y := UInt8.ofNat (znq (zmW l)).2) (rest := []) 0 rfl SzF.h rfl rfl rfl (by omega) (za rfl)) rfl ?_;rintro _ _ _ ⟨rfl, rfl, rfl⟩;refine g [[4],[7,8,3,2]] ?_;refine WP.endDA [_, _] [_, _] rfl rfl CaF.h (fun w hI => zmt b3 w) rfl zV (fun w hI => ⟨_, _, _, rfl, DExt.refl _ _, Inv.left (l1 := [_]) hI, rfl, .inl ⟨by rw [zpH h0' hts hl2 hl1], b32, by rw [zpH h0' hts hl2 hl1, List.length_set]; rfl, by rw [zpH h0' hts hl2 hl1] <;> rfl, hb32⟩⟩)
    try simp only [zq] at c77
    have hl1 : (zmr l).1 ≠ 0 := by omega
    refine g [[1],[5,9,8,7,3,2]] ?_;refine WL.cl rfl (fun w hI => zHI (zmr l).2 (zmr l).1 hlk.2 hlk.1 _) (g [[4],[4,10,9,8,7,3,2]] ?_);refine WL.part 45 rfl (fun g45 => ?_) (fun g45 => ?_)
    · try simp only [zq] at g45
      refine g [[4]] ?_;refine WL.part 49 rfl (fun g49 => ?_) (fun g49 => ?_)
      · try simp only [zq] at g49
        refine WL.cl rfl (fun w hI => zmq _ _) (g [[2],[0,10,8,7,3,2]] ?_);refine WC.drawD [_, _, _, _] (pz [1,3,5,7,9,11,13,19,21,14,17,23,25,27,29,30]) zk zk zX (fun _ hI => hI.tail) (g [[2]] ?_);refine WA.yd rfl (Yd.sub rfl rfl (wr64 ⟨by (try dsimp only); omega, by (try dsimp only); omega⟩)) rfl ?_;refine WA.know 53 (nt ((quoN (zmr l).2 (zmr l).1) - 1)) rfl (by congr 1; omega) (g [[2]] ?_);refine WA.yd rfl (Yd.sub rfl rfl (wr64 ⟨by (try dsimp only); omega, by (try dsimp only); omega⟩)) rfl ?_;refine WA.know 56 (nt ((quoN (zmr l).2 (zmr l).1) - 1)) rfl (by congr 1; omega) ?_;have hb8 := (gt l ((quoN (zmr l).2 (zmr l).1) - 1)).toNat_lt;refine WA.yd rfl (Yd.indexS UnF.h SzF.h rfl rfl (by (try dsimp only); omega) (by (try dsimp only); omega) (rfl)) rfl (g [[2]] ?_);refine WA.so rfl (SO.ofYd (Yd.l1 rfl (Rd.flat znK (k := 0) (i := (quoN (zmr l).2 (zmr l).1) - 1) (j := 0) (l := l) (rest := []) rfl (by omega) (by decide) rfl))) rfl (zs ⟨fun _ hI => hI.tail, ?_⟩);refine WA.yd rfl (Yd.conv UnF.h UnF.h rfl (wr64 ⟨by omega, by omega⟩)) rfl ?_;refine WA.yd rfl (Yd.add rfl rfl (wr64 ⟨by (try dsimp only); omega, by (try dsimp only); omega⟩)) rfl ?_;refine WA.yd rfl (Yd.rem rfl rfl (by (try dsimp only); omega) (by (try dsimp only); omega)) rfl ?_;refine WA.yd rfl (Yd.conv UnF.h UnF.h rfl (wr8 ⟨by (try dsimp only); omega, by (try dsimp only); omega⟩)) rfl ?_;refine WA.yd rfl (Yd.indexS UnF.h SzF.h rfl rfl (by (try dsimp only); omega) (by (try dsimp only); omega) (rfl)) rfl ?_;refine WA.know 64 (bt (UInt8.ofNat (((gt l ((quoN (zmr l).2 (zmr l).1) - 1)).toNat + (zmr l).1) % 251))) rfl ((btN (by omega)).trans (by simp)).symm ?_;refine WA.so rfl (SO.storeRow (f := btC) (m := 1) znK (l := l) (i := (quoN (zmr l).2 (zmr l).1) - 1) (y := UInt8.ofNat (((gt l ((quoN (zmr l).2 (zmr l).1) - 1)).toNat + (zmr l).1) % 251)) (rest := []) 0 rfl SzF.h rfl rfl rfl (by omega) (za rfl)) rfl ?_;rintro _ _ _ ⟨rfl, rfl, rfl⟩;refine ⟨fun _ hI => hI.tail, ?_⟩;refine g [[4],[7,8,3,2]] ?_;refine WP.endDA [_, _] [_, _] rfl rfl CaF.h (fun w hI => zmt b3 w) rfl zV (fun w hI => ⟨_, _, _, rfl, DExt.refl _ _, Inv.left (l1 := [_]) hI, rfl, .inl ⟨by rw [zoQ h0' hts hl2 hl1 (by omega)], b32, by rw [zoQ h0' hts hl2 hl1 (by omega), List.length_set]; rfl, by rw [zoQ h0' hts hl2 hl1 (by omega)] <;> rfl, hb32⟩⟩)
      try simp only [zq] at g49
      refine WL.nf rfl (fun w hI => qs _ _) (g [[3]] ?_);refine WP.panicDA (k := 4) [_, _] [_, _] rfl CaF.h rfl (fun w hI => k5 b3 _ 0 _ w (hI.own _ _ (List.mem_of_getElem? (i := 4) rfl))) rfl zV (fun w hI => ⟨_, _, [], rfl, DExt.refl _ _, Inv.nil hI, rfl, .inr ⟨by rw [znB h0' hts hl2 hl1 (by omega)]; first | decide | (simpa using h0), by rw [znB h0' hts hl2 hl1 (by omega)], by rw [znB h0' hts hl2 hl1 (by omega)]; rfl, rfl⟩⟩)
    try simp only [zq] at g45
    refine g [[4]] ?_;refine WL.nf rfl (fun w hI => qs _ _) (g [[3]] ?_);refine WP.panicDA (k := 4) [_, _] [_, _] rfl CaF.h rfl (fun w hI => k5 b3 _ 0 _ w (hI.own _ _ (List.mem_of_getElem? (i := 4) rfl))) rfl zV (fun w hI => ⟨_, _, [], rfl, DExt.refl _ _, Inv.nil hI, rfl, .inr ⟨by rw [znB h0' hts hl2 hl1 (by omega)]; first | decide | (simpa using h0), by rw [znB h0' hts hl2 hl1 (by omega)], by rw [znB h0' hts hl2 hl1 (by omega)]; rfl, rfl⟩⟩)
  try simp only [zq] at g19
  refine WA.no rfl (SO.fail (Enters.func CaF.h rfl) (fun w hI => qs _ _) (g [[1]] ?_));refine WP.panicDA (k := 1) [_, _] [_, _] rfl CaF.h rfl (fun w hI => k5 b3 _ 0 _ w (hI.own _ _ (List.mem_of_getElem? (i := 1) rfl))) rfl zV (fun w hI => ⟨_, _, [], rfl, DExt.refl _ _, Inv.nil hI, rfl, .inr ⟨by rw [zoS h0' g19]; first | decide | (simpa using h0), by rw [zoS h0' g19], by rw [zoS h0' g19]; rfl, rfl⟩⟩)
def Sp64 (x : Sp) : Prop := i64B x.lo ∧ i64B x.hi
theorem sp64 {x : Sp} (h : zn9 x) : Sp64 x := ⟨i100 h.1, i100 h.2⟩
theorem zpm {x : Sp} (h : Sp64 x) : (vX x).length ≤ 42 := by
  have := zo4 h.1; have := zo4 h.2;unfold vX; split <;> simp <;> omega
structure zvX (s : Surf) : Prop where
  rows : i64B s.rows
  step : i64B s.step
  nw : s.water.length ≤ 50
  nv : s.waves.length ≤ 50
  nh : s.huts.length ≤ 50
  w : ∀ x ∈ s.water, Sp64 x
  v : ∀ x ∈ s.waves, Sp64 x
  h : ∀ x ∈ s.huts, i64B x.floor ∧ i64B x.brake ∧ i64B x.row
theorem zvX.of {s : Surf} (h : zmo s) : zvX s :=
  ⟨by have := h.rows; exact ⟨by omega, by omega⟩, by have := h.step; exact ⟨by omega, by omega⟩, by have := h.nwater; omega, by have := h.nwater; have := h.same; omega, by have := h.nhuts; omega,
    fun x hx => sp64 (h.w100 x hx), fun x hx => sp64 (h.v100 x hx), fun x hx => ⟨i100 (h.h100 x hx).1, i100 (h.h100 x hx).2.1, i100 (h.h100 x hx).2.2⟩⟩
theorem zvX.zero : zvX zo7 := ⟨⟨by decide, by decide⟩, ⟨by decide, by decide⟩, by decide, by decide, by decide, by simp [zo7], by simp [zo7], by simp [zo7]⟩
structure zvW (f : Flag) : Prop where
  low : i64B f.low
  high : i64B f.high
  quiet : i64B f.quiet
  nh : f.hours.length ≤ 50
  ns : f.seen.length ≤ 50
  h : ∀ x ∈ f.hours, Sp64 x.wind
  s : ∀ x ∈ f.seen, i64B x.hour
theorem zvW.of {f : Flag} (h : zmp f) : zvW f :=
  ⟨i100 h.n100.1, i100 h.n100.2.1, i100 h.n100.2.2, by have := h.nhours; omega, by have := h.nseen; omega, fun x hx => sp64 (h.h100 x hx), fun x hx => i100 (h.s100 x hx)⟩
theorem zvW.zero : zvW zod := ⟨⟨by decide, by decide⟩, ⟨by decide, by decide⟩, ⟨by decide, by decide⟩, by decide, by decide, by simp [zod], by simp [zod]⟩
structure zsm (b : xb) : Prop where
  wide : i64B b.wide
  deep : i64B b.deep
  speed : i64B b.speed
  last : i64B b.last
  n : b.seen.length ≤ 50
  nr : ∀ l ∈ b.seen, l.length ≤ 50
  s : ∀ l ∈ b.seen, ∀ s ∈ l, i64B s.minute ∧ Sp64 s.cols ∧ Sp64 s.rows
theorem zsm.of {b : xb} (h : xv b) : zsm b :=
  ⟨i100 h.n100.1, i100 h.n100.2.1, i100 h.n100.2.2.1, i100 h.n100.2.2.2, by have := h.n; omega, fun l hl => by have := (h.rows l hl).1; omega, fun l hl s hs => ⟨i100 (h.s100 l hl s hs).1, sp64 (h.s100 l hl s hs).2.1, sp64 (h.s100 l hl s hs).2.2⟩⟩
theorem zsm.zero : zsm znj := ⟨⟨by decide, by decide⟩, ⟨by decide, by decide⟩, ⟨by decide, by decide⟩, ⟨by decide, by decide⟩, by decide, by simp [znj], by simp [znj]⟩
theorem uU {α : Type} [Inhabited α] {l : List α} {x : α} (h : x ∈ l) : ∃ i, i < l.length ∧ gt l i = x := by
  obtain ⟨i, hi, e⟩ := List.mem_iff_getElem.1 h;exact ⟨i, hi, by simp [gt, List.getD, hi, e]⟩
theorem zmy {b : Bool} {p : Prop} (h : b = true ↔ p) (hn : ¬ p) : Ending.returned (Value.bool false) = .returned (.bool b) := by
  cases b
  · rfl
  exact absurd (h.1 rfl) hn
theorem zsc {b : Bool} {p : Prop} (h : b = true ↔ p) (hp : p) : Ending.returned (Value.bool true) = .returned (.bool b) := by
  rw [h.2 hp]
section
variable (n lo hi : Int) (w : World)
include n lo hi w
theorem zrc : z8 Tryz.prog 70 [it n, it lo, it hi] w (.bool (inB n lo hi)) := by
  unfold z8;refine en Tryz.func70 rfl Tryz.ntmps70 zI (g [[1],[5,0,1,2],[5,6,0,1,2]] ?_);refine WL.part 10 rfl (fun g10 => ?_) (fun g10 => ?_)
  · try simp only [zq] at g10
    refine g [[8]] ?_;refine WP.ret1 rfl rfl rfl (RV.tmp rfl) (fun w hI => ⟨zb (by rw [Bool.eq_iff_iff]; simp [inB]; omega), hI.keep⟩)
  try simp only [zq] at g10
  refine g [[8]] ?_;refine WP.ret1 rfl rfl rfl (RV.tmp rfl) (fun w hI => ⟨zb (by rw [Bool.eq_iff_iff]; simp [inB]; omega), hI.keep⟩)
theorem zuA : z8 Tryz.prog 72 [it n, it lo, it hi] w (.bool (inB n lo hi)) := by
  unfold z8;refine en Tryz.func72 rfl Tryz.ntmps72 zI (g [[1],[5,0,1,2],[5,6,0,1,2]] ?_);refine WL.part 10 rfl (fun g10 => ?_) (fun g10 => ?_)
  · try simp only [zq] at g10
    refine g [[8]] ?_;refine WP.ret1 rfl rfl rfl (RV.tmp rfl) (fun w hI => ⟨zb (by rw [Bool.eq_iff_iff]; simp [inB]; omega), hI.keep⟩)
  try simp only [zq] at g10
  refine g [[8]] ?_;refine WP.ret1 rfl rfl rfl (RV.tmp rfl) (fun w hI => ⟨zb (by rw [Bool.eq_iff_iff]; simp [inB]; omega), hI.keep⟩)
theorem zrd : z8 Tryz.prog 74 [it n, it lo, it hi] w (.bool (inB n lo hi)) := by
  unfold z8;refine en Tryz.func74 rfl Tryz.ntmps74 zI (g [[1],[5,0,1,2],[5,6,0,1,2]] ?_);refine WL.part 10 rfl (fun g10 => ?_) (fun g10 => ?_)
  · try simp only [zq] at g10
    refine g [[8]] ?_;refine WP.ret1 rfl rfl rfl (RV.tmp rfl) (fun w hI => ⟨zb (by rw [Bool.eq_iff_iff]; simp [inB]; omega), hI.keep⟩)
  try simp only [zq] at g10
  refine g [[8]] ?_;refine WP.ret1 rfl rfl rfl (RV.tmp rfl) (fun w hI => ⟨zb (by rw [Bool.eq_iff_iff]; simp [inB]; omega), hI.keep⟩)
end
theorem zt7 (x : Sp) (hi : Int) (hh : hi ≤ 100) (w : World) : z8 Tryz.prog 71 [.agg #[it x.lo, it x.hi], it hi] w (.bool (ZP x hi)) := by
  unfold z8;refine en Tryz.func71 rfl Tryz.ntmps71 zI (g [[1],[1,0,1]] ?_);refine WL.so (SO.box rfl rfl) rfl (zw fun b2 hb2 => ?_);refine g [[4],[5,4,2,1]] ?_;refine WL.part 8 rfl (fun g8 => ?_) (fun g8 => ?_)
  · try simp only [zq] at g8
    refine g [[7]] ?_;refine WL.part 15 rfl (fun g15 => ?_) (fun g15 => ?_)
    · try simp only [zq] at g15
      refine g [[6]] ?_;refine WL.part 21 rfl (fun g21 => ?_) (fun g21 => ?_)
      · try simp only [zq] at g21
        refine g [[11]] ?_;refine WP.ret1 rfl rfl rfl (RV.tmp rfl) (fun w hI => ⟨zb (by rw [Bool.eq_iff_iff]; simp [ZP, spB]; omega), hI.keep⟩)
      try simp only [zq] at g21
      refine g [[11]] ?_;refine WP.ret1 rfl rfl rfl (RV.tmp rfl) (fun w hI => ⟨zb (by rw [Bool.eq_iff_iff]; simp [ZP, spB]; omega), hI.keep⟩)
    try simp only [zq] at g15
    refine g [[17]] ?_;refine WP.ret1 rfl rfl rfl (RV.tmp rfl) (fun w hI => ⟨zb (by rw [Bool.eq_iff_iff]; simp [ZP, spB]; omega), hI.keep⟩)
  try simp only [zq] at g8
  refine g [[24]] ?_;refine WP.ret1 rfl rfl rfl (RV.tmp rfl) (fun w hI => ⟨zb (by rw [Bool.eq_iff_iff]; simp [ZP, spB]; omega), hI.keep⟩)
theorem zt8 (x : Sp) (hi : Int) (w : World) : z8 Tryz.prog 75 [.agg #[it x.lo, it x.hi], it hi] w (.bool (spB x 0 hi)) := by
  unfold z8;refine en Tryz.func75 rfl Tryz.ntmps75 zI (g [[1],[1,0,1]] ?_);refine WL.so (SO.box rfl rfl) rfl (zw fun b2 hb2 => ?_);refine g [[4],[5,4,2,1]] ?_;refine WL.part 8 rfl (fun g8 => ?_) (fun g8 => ?_)
  · try simp only [zq] at g8
    refine g [[7]] ?_;refine WL.part 15 rfl (fun g15 => ?_) (fun g15 => ?_)
    · try simp only [zq] at g15
      refine g [[9]] ?_;refine WP.ret1 rfl rfl rfl (RV.tmp rfl) (fun w hI => ⟨zb (by rw [Bool.eq_iff_iff]; simp [spB]; omega), hI.keep⟩)
    try simp only [zq] at g15
    refine g [[9]] ?_;refine WP.ret1 rfl rfl rfl (RV.tmp rfl) (fun w hI => ⟨zb (by rw [Bool.eq_iff_iff]; simp [spB]; omega), hI.keep⟩)
  try simp only [zq] at g8
  refine g [[16]] ?_;refine WP.ret1 rfl rfl rfl (RV.tmp rfl) (fun w hI => ⟨zb (by rw [Bool.eq_iff_iff]; simp [spB]; omega), hI.keep⟩)
end Go.Proofs.YtaiegbjgfdhgaaaGreatDoor
namespace Go.Bk
open Go.W Go.Bk Go.Proofs.YtaiegbjgfdhgaaaGreatDoor
section
variable {s : Surf} (h : zmo s) {k : Nat}
include s h k
theorem zmo.gw (hk : k < s.water.length) : ZP (gt s.water k) 30 = true := by
  have := h.water _ (Ky hk); unfold ZP; rw [this.1, Bool.true_and, decide_eq_true_eq]; exact this.2
theorem zmo.gv (hk : k < s.waves.length) : ZP (gt s.waves k) 10 = true := by
  have := h.waves _ (Ky hk); unfold ZP; rw [this.1, Bool.true_and, decide_eq_true_eq]; exact this.2
theorem zmo.gh (hk : k < s.huts.length) : hutB s.rows (gt s.huts k) = true := by
  have h1 := h.huts _ (Ky hk); unfold hutB inB; simp only [Bool.and_eq_true, decide_eq_true_eq]; exact ⟨⟨h1.1, h1.2.1⟩, h1.2.2⟩
end
end Go.Bk
namespace Go.Proofs.YtaiegbjgfdhgaaaGreatDoor
open Go.W Go.Bk
theorem zsX {x : Sp} {hi : Int} (h : ZP x hi = true) : spB x 0 hi = true ∧ x.hi - x.lo ≤ 3 := by
  unfold ZP at h; rw [Bool.and_eq_true, decide_eq_true_eq] at h; exact h
theorem zvx {s : Surf} (hA : (1 ≤ s.rows ∧ s.rows ≤ 6) ∧ (0 ≤ s.step ∧ s.step ≤ 4) ∧ s.water.length ≤ 8 ∧ s.waves.length = s.water.length ∧ s.huts.length ≤ 5) (hF : ∀ i, i < s.water.length → ZP (gt s.water i) 30 = true ∧ ZP (gt s.waves i) 10 = true) (hG : ∀ i, i < s.huts.length → hutB s.rows (gt s.huts i) = true) : zmo s := by
  obtain ⟨a, b, c, d, e⟩ := hA;refine ⟨a, b, c, d, e, fun x hx => ?_, fun x hx => ?_, fun x hx => ?_⟩
  · obtain ⟨i, hi, rfl⟩ := uU hx; exact zsX (hF i hi).1
  · obtain ⟨i, hi, rfl⟩ := uU hx; exact zsX (hF i (by omega)).2
  obtain ⟨i, hi, rfl⟩ := uU hx;have := hG i hi; unfold hutB inB at this; simp only [Bool.and_eq_true, decide_eq_true_eq] at this; exact ⟨this.1.1, this.1.2, this.2⟩
theorem zwZ (s : Surf) (m : zn4) (D : Imm) (hR : zn1 D s m) (w : World) (hH : Holds D w) : z8 Tryz.prog 17 [zno s m] w (.bool (zn8 s)) := by
  unfold z8;obtain ⟨⟨wa, wn, wc⟩, ⟨va, vn, vc⟩, ⟨ha, hn, hc⟩⟩ := m;obtain rfl : wn = s.water.length := hR.w.len';obtain rfl : vn = s.waves.length := hR.v.len';obtain rfl : hn = s.huts.length := hR.h.len';have hRw : SlL D 2 (s.water.map spC) wa s.water.length := hR.w;have hRv : SlL D 2 (s.waves.map spC) va s.waves.length := hR.v;have hRh : SlL D 3 (s.huts.map hutC) ha s.huts.length := hR.h;have nw : s.water.length ≤ 9223372036854775807 := hR.nw;have nv : s.waves.length ≤ 9223372036854775807 := hR.nv;have nh : s.huts.length ≤ 9223372036854775807 := hR.nh;refine en Tryz.func17 rfl Tryz.ntmps17 (Inv.start hH) (g [[1],[1,0]] ?_);refine WL.so (SO.box rfl rfl) rfl (zw fun b1 hb1 => ?_);refine g [[5],[3,2,1]] ?_;refine WL.cl rfl (fun w hI => zrc _ _ _ _) (g [[2]] ?_);refine WL.part 10 rfl (fun g10 => ?_) (fun g10 => ?_)
  · try simp only [zq] at g10
    refine g [[30],[6,2,1]] ?_;refine WP.ret1 rfl rfl rfl (RV.tmp rfl) (fun w hI => ⟨zmy qa (by intro h; have h1 := h.rows; have h2 := h.step; have h3 := h.nwater; have h4 := h.same; have h5 := h.nhuts; (simp only [inB, spB, decide_eq_true_eq, decide_eq_false_iff_not] at *; omega)), hI.keep⟩)
  try simp only [zq] at g10
  refine g [[2]] ?_;refine WL.sog rfl (SO.callP CaF.h rfl (fun w hI => zrc _ _ _ _)) rfl (zs (g [[3]] ?_));refine WL.part 16 rfl (fun g16 => ?_) (fun g16 => ?_)
  · try simp only [zq] at g16
    refine g [[24],[6,2,1]] ?_;refine WP.ret1 rfl rfl rfl (RV.tmp rfl) (fun w hI => ⟨zmy qa (by intro h; have h1 := h.rows; have h2 := h.step; have h3 := h.nwater; have h4 := h.same; have h5 := h.nhuts; (simp only [inB, spB, decide_eq_true_eq, decide_eq_false_iff_not] at *; omega)), hI.keep⟩)
  try simp only [zq] at g16
  refine g [[6]] ?_;refine WL.part 22 rfl (fun g22 => ?_) (fun g22 => ?_)
  · try simp only [zq] at g22
    refine g [[18],[6,2,1]] ?_;refine WP.ret1 rfl rfl rfl (RV.tmp rfl) (fun w hI => ⟨zmy qa (by intro h; have h1 := h.rows; have h2 := h.step; have h3 := h.nwater; have h4 := h.same; have h5 := h.nhuts; (simp only [inB, spB, decide_eq_true_eq, decide_eq_false_iff_not] at *; omega)), hI.keep⟩)
  try simp only [zq] at g22
  refine g [[9]] ?_;refine WL.part 31 rfl (fun g31 => ?_) (fun g31 => ?_)
  · try simp only [zq] at g31
    refine g [[9],[6,2,1]] ?_;refine WP.ret1 rfl rfl rfl (RV.tmp rfl) (fun w hI => ⟨zmy qa (by intro h; have h1 := h.rows; have h2 := h.step; have h3 := h.nwater; have h4 := h.same; have h5 := h.nhuts; (simp only [inB, spB, decide_eq_true_eq, decide_eq_false_iff_not] at *; omega)), hI.keep⟩)
  try simp only [zq] at g31
  refine g [[7]] ?_;refine WC.cond rfl (fun c36 => ?_) (fun c36 => ?_)
  · try simp only [zq] at c36
    refine g [[1],[6,2,1]] ?_;refine WP.ret1 rfl rfl rfl (RV.tmp rfl) (fun w hI => ⟨zmy qa (by intro h; have h1 := h.rows; have h2 := h.step; have h3 := h.nwater; have h4 := h.same; have h5 := h.nhuts; (simp only [inB, spB, decide_eq_true_eq, decide_eq_false_iff_not] at *; omega)), hI.keep⟩)
  try simp only [zq] at c36
  refine g [[4],[5,2,1]] ?_;have hA : (1 ≤ s.rows ∧ s.rows ≤ 6) ∧ (0 ≤ s.step ∧ s.step ≤ 4) ∧ s.water.length ≤ 8 ∧ s.waves.length = s.water.length ∧ s.huts.length ≤ 5 := by (simp only [inB, spB, decide_eq_true_eq, decide_eq_false_iff_not] at *; omega)
  refine WC.loopT [] (fun k : Nat => [(1, pt b1), (3, nt k)]) (fun _ => [(b1, .cells (List.toArray [it s.rows, it s.step, .slice wa s.water.length wc, .slice va s.waves.length vc, .slice ha s.huts.length hc]) 49 (0, 0))]) (fun k => k ≤ s.water.length ∧ ∀ i, i < k → ZP (gt s.water i) 30 = true ∧ ZP (gt s.waves i) 10 = true) (fun k => s.water.length - k) 0 ⟨Nat.zero_le _, fun _ h => absurd h (Nat.not_lt_zero _)⟩ rfl ⟨rfl, rfl, trivial⟩ ?_;rintro k ⟨hk, hF⟩;refine g [[2],[8,1,3]] ?_;refine WC.cond rfl (fun c41 => ?_) (fun c41 => ?_)
  · try simp only [zq] at c41
    have hkl : k < s.water.length := by omega
    refine g [[5],[4,1,3]] ?_;refine WL.yd (Yd.ix rfl rfl (hRw.addr k (by omega))) rfl (WL.yd (Yd.lV [_, _] rfl ((hRw.at k (by omega)).rdn 0 2 rfl)) rfl ?_);refine WL.cl rfl (fun w hI => zt7 (gt s.water k) 30 (by decide) _) (g [[2]] ?_);refine WL.part 51 rfl (fun g51 => ?_) (fun g51 => ?_)
    · try simp only [zq] at g51
      refine g [[12],[10,1,3]] ?_;refine WP.ret1 rfl rfl rfl (RV.tmp rfl) (fun w hI => ⟨zmy qa (by intro h; have h1 := h.gw hkl; have h2 := h.gv (k := k) (by omega); simp_all), hI.keep⟩)
    try simp only [zq] at g51
    refine g [[3]] ?_;refine WL.ydg rfl (Yd.ix rfl rfl (hRv.addr k (by omega))) rfl (WL.ydg rfl (Yd.lV [_, _] rfl ((hRv.at k (by omega)).rdn 0 2 rfl)) rfl ?_);refine WL.sog rfl (SO.callP CaF.h rfl (fun w hI => zt7 (gt s.waves k) 10 (by decide) _)) rfl (zs (g [[4]] ?_));refine WC.cond rfl (fun c59 => ?_) (fun c59 => ?_)
    · try simp only [zq] at c59
      refine g [[1],[10,1,3]] ?_;refine WP.ret1 rfl rfl rfl (RV.tmp rfl) (fun w hI => ⟨zmy qa (by intro h; have h1 := h.gw hkl; have h2 := h.gv (k := k) (by omega); simp_all), hI.keep⟩)
    try simp only [zq] at c59
    refine g [[3],[5,1,3]] ?_;exact WP.againT (k + 1) ⟨hkl, (fun i hi => by rcases Nat.lt_or_ge i k with h | h; exact hF i h; obtain rfl : i = k := (by omega); exact ⟨g51, c59⟩)⟩ (by omega) [] _ rfl rfl ⟨rfl, rfl, trivial⟩
  try simp only [zq] at c41
  obtain rfl : k = s.water.length := by omega
  refine g [[7],[5,1]] ?_;refine WC.loopT [] (fun k : Nat => [(1, pt b1), (4, nt k)]) (fun _ => [(b1, .cells (List.toArray [it s.rows, it s.step, .slice wa s.water.length wc, .slice va s.waves.length vc, .slice ha s.huts.length hc]) 49 (0, 0))]) (fun k => k ≤ s.huts.length ∧ ∀ i, i < k → hutB s.rows (gt s.huts i) = true) (fun k => s.huts.length - k) 0 ⟨Nat.zero_le _, fun _ h => absurd h (Nat.not_lt_zero _)⟩ rfl ⟨rfl, rfl, trivial⟩ ?_;rintro k ⟨hk, hG⟩;refine g [[2],[8,1,4]] ?_;refine WC.cond rfl (fun c64 => ?_) (fun c64 => ?_)
  · try simp only [zq] at c64
    have hkl : k < s.huts.length := by omega
    refine g [[5],[4,1,4]] ?_;refine WL.yd (Yd.ix rfl rfl (hRh.addr k (by omega))) rfl (WL.yd (Yd.lV [_, _, _] rfl ((hRh.at k (by omega)).rdn 0 3 rfl)) rfl ?_);refine WL.so (SO.alloc ZvF.h rfl) rfl (zw fun b5 hb5 => ?_);refine g [[4],[3,5,1,4]] ?_;refine WL.cl rfl (fun w hI => zrc _ _ _ _) (g [[2]] ?_);refine WL.part 76 rfl (fun g76 => ?_) (fun g76 => ?_)
    · try simp only [zq] at g76
      refine g [[18],[10,1,4]] ?_;refine WP.ret1 rfl rfl rfl (RV.tmp rfl) (fun w hI => ⟨zmy qa (by intro h; have h1 := h.gh hkl; unfold hutB at h1; simp_all), hI.keep⟩)
    try simp only [zq] at g76
    refine g [[2]] ?_;refine WL.sog rfl (SO.callP CaF.h rfl (fun w hI => zrc _ _ _ _)) rfl (zs (g [[3]] ?_));refine WL.part 82 rfl (fun g82 => ?_) (fun g82 => ?_)
    · try simp only [zq] at g82
      refine g [[12],[10,1,4]] ?_;refine WP.ret1 rfl rfl rfl (RV.tmp rfl) (fun w hI => ⟨zmy qa (by intro h; have h1 := h.gh hkl; unfold hutB at h1; simp_all), hI.keep⟩)
    try simp only [zq] at g82
    refine g [[5]] ?_;refine WL.sog rfl (SO.callP CaF.h rfl (fun w hI => zrc _ _ _ _)) rfl (zs (g [[4]] ?_));refine WC.cond rfl (fun c90 => ?_) (fun c90 => ?_)
    · try simp only [zq] at c90
      refine g [[1],[10,1,4]] ?_;refine WP.ret1 rfl rfl rfl (RV.tmp rfl) (fun w hI => ⟨zmy qa (by intro h; have h1 := h.gh hkl; unfold hutB at h1; simp_all), hI.keep⟩)
    try simp only [zq] at c90
    refine g [[3],[5,1,4]] ?_;exact WP.againT (k + 1) ⟨hkl, (fun i hi => by rcases Nat.lt_or_ge i k with h | h; exact hG i h; obtain rfl : i = k := (by omega); unfold hutB; rw [g76, g82, c90]; rfl)⟩ (by omega) [_] _ rfl rfl ⟨rfl, rfl, trivial⟩
  try simp only [zq] at c64
  obtain rfl : k = s.huts.length := by omega
  refine g [[6]] ?_;refine WC.ofFr [] trivial (g [[5]] ?_);refine WP.ret1 rfl rfl rfl (RV.tmp rfl) (fun w hI => ⟨zsc qa (zvx hA hF hG), hI.keep⟩)
end Go.Proofs.YtaiegbjgfdhgaaaGreatDoor
namespace Go.Bk
open Go.W Go.Bk Go.Proofs.YtaiegbjgfdhgaaaGreatDoor
theorem zmp.gh {f : Flag} (h : zmp f) {k : Nat} (hk : k < f.hours.length) : (0 ≤ (gt f.hours k).wind.lo ∧ (gt f.hours k).wind.lo ≤ (gt f.hours k).wind.hi ∧ (gt f.hours k).wind.hi ≤ 12) ∧ 0 ≤ (gt f.hours k).thunder ∧ (gt f.hours k).thunder ≤ 2 := by
  have h1 := h.hours _ (Ky hk); exact ⟨znh.1 h1.1, h1.2⟩
end Go.Bk
namespace Go.Proofs.YtaiegbjgfdhgaaaGreatDoor
open Go.W Go.Bk
theorem zuj {f : Flag} (hA : (1 ≤ f.low ∧ f.low ≤ f.high ∧ f.high ≤ 12) ∧ (1 ≤ f.quiet ∧ f.quiet ≤ 4) ∧ f.hours.length ≤ 9 ∧ f.seen.length ≤ 8) (hF : ∀ i, i < f.hours.length → (0 ≤ (gt f.hours i).wind.lo ∧ (gt f.hours i).wind.lo ≤ (gt f.hours i).wind.hi ∧ (gt f.hours i).wind.hi ≤ 12) ∧ 0 ≤ (gt f.hours i).thunder ∧ (gt f.hours i).thunder ≤ 2) (hG : ∀ i, i < f.seen.length → inB (gt f.seen i).hour 0 ((f.hours.length : Int) - 1) = true) : zmp f := by
  obtain ⟨a, b, c, d⟩ := hA;refine ⟨a, b, c, d, fun x hx => ?_, fun x hx => ?_⟩
  · obtain ⟨i, hi, rfl⟩ := uU hx; exact ⟨znh.2 (hF i hi).1, (hF i hi).2⟩
  obtain ⟨i, hi, rfl⟩ := uU hx; exact zmQ.1 (hG i hi)
theorem zo5 {b : xb} : ∀ (l : List zmz) (m : Int) (j : Nat), rowB b m l = true → rowB b m (l.take j) = true
  | [], m, j, _ => by simp [rowB]
  | s :: l, m, 0, _ => by simp [rowB]
  | s :: l, m, j + 1, h => by
    rw [List.take_succ_cons, rowB];rw [rowB] at h;simp only [Bool.and_eq_true] at h ⊢;exact ⟨h.1, zo5 l s.minute j h.2⟩
theorem zto {b : xb} (hA : (1 ≤ b.wide ∧ b.wide ≤ 8) ∧ (1 ≤ b.deep ∧ b.deep ≤ 6) ∧ (0 ≤ b.speed ∧ b.speed ≤ 3) ∧ (0 ≤ b.last ∧ b.last ≤ 12) ∧ b.seen.length ≤ 4) (hF : ∀ i, i < b.seen.length → (gt b.seen i).length ≤ 5 ∧ rowB b 0 (gt b.seen i) = true) : xv b := by
  obtain ⟨a, c, d, e, f⟩ := hA;refine ⟨a, c, d, e, f, fun x hx => ?_⟩;obtain ⟨i, hi, rfl⟩ := uU hx; exact hF i hi
theorem zyZ (f : Flag) (m : zmG) (n : Int) (D : Imm) (hR : znr D f m) (w : World) : z8 Tryz.prog 73 [znT f m, it n] w (.bool (inB n 0 ((f.hours.length : Int) - 1))) := by
  unfold z8;obtain ⟨⟨ha, hn, hc⟩, ⟨sa, sn, sc⟩⟩ := m;obtain rfl : hn = f.hours.length := hR.h.len';obtain rfl : sn = f.seen.length := hR.s.len';have hRh : SlL D 3 (f.hours.map znU) ha f.hours.length := hR.h;have hRs : SlL D 2 (f.seen.map znc) sa f.seen.length := hR.s;have nh : f.hours.length ≤ 9223372036854775807 := hR.nh;have ns : f.seen.length ≤ 9223372036854775807 := hR.ns;refine en Tryz.func73 rfl Tryz.ntmps73 zI (g [[1],[1,0,1]] ?_);refine WL.so (SO.box rfl rfl) rfl (zw fun b2 hb2 => ?_);refine g [[4],[5,4,2,1]] ?_;refine WL.yd (Yd.sub rfl rfl (wr64 ⟨by (try dsimp only); omega, by (try dsimp only); omega⟩)) rfl ?_;refine WL.cl rfl (fun w hI => zuA _ _ _ _) (g [[4]] ?_);refine WP.ret1 rfl rfl rfl (RV.tmp rfl) (fun w hI => ⟨rfl, hI.keep⟩)
theorem zwY (f : Flag) (m : zmG) (D : Imm) (hR : znr D f m) (w : World) (hH : Holds D w) : z8 Tryz.prog 18 [znT f m] w (.bool (znf f)) := by
  unfold z8;obtain ⟨⟨ha, hn, hc⟩, ⟨sa, sn, sc⟩⟩ := m;obtain rfl : hn = f.hours.length := hR.h.len';obtain rfl : sn = f.seen.length := hR.s.len';have hRh : SlL D 3 (f.hours.map znU) ha f.hours.length := hR.h;have hRs : SlL D 2 (f.seen.map znc) sa f.seen.length := hR.s;have nh : f.hours.length ≤ 9223372036854775807 := hR.nh;have ns : f.seen.length ≤ 9223372036854775807 := hR.ns;refine en Tryz.func18 rfl Tryz.ntmps18 (Inv.start hH) (g [[1],[1,0]] ?_);refine WL.so (SO.box rfl rfl) rfl (zw fun b1 hb1 => ?_);refine g [[5],[5,2,1]] ?_;refine WL.part 9 rfl (fun g9 => ?_) (fun g9 => ?_)
  · try simp only [zq] at g9
    refine g [[33],[6,2,1]] ?_;refine WP.ret1 rfl rfl rfl (RV.tmp rfl) (fun w hI => ⟨zmy qc (by intro h; have h1 := h.low; have h2 := h.quiet; have h3 := h.nhours; have h4 := h.nseen; (simp only [inB, spB, decide_eq_true_eq, decide_eq_false_iff_not] at *; omega)), hI.keep⟩)
  try simp only [zq] at g9
  refine g [[7]] ?_;refine WL.part 16 rfl (fun g16 => ?_) (fun g16 => ?_)
  · try simp only [zq] at g16
    refine g [[26],[6,2,1]] ?_;refine WP.ret1 rfl rfl rfl (RV.tmp rfl) (fun w hI => ⟨zmy qc (by intro h; have h1 := h.low; have h2 := h.quiet; have h3 := h.nhours; have h4 := h.nseen; (simp only [inB, spB, decide_eq_true_eq, decide_eq_false_iff_not] at *; omega)), hI.keep⟩)
  try simp only [zq] at g16
  refine g [[5]] ?_;refine WL.part 21 rfl (fun g21 => ?_) (fun g21 => ?_)
  · try simp only [zq] at g21
    refine g [[21],[6,2,1]] ?_;refine WP.ret1 rfl rfl rfl (RV.tmp rfl) (fun w hI => ⟨zmy qc (by intro h; have h1 := h.low; have h2 := h.quiet; have h3 := h.nhours; have h4 := h.nseen; (simp only [inB, spB, decide_eq_true_eq, decide_eq_false_iff_not] at *; omega)), hI.keep⟩)
  try simp only [zq] at g21
  refine g [[2]] ?_;refine WL.sog rfl (SO.callP CaF.h rfl (fun w hI => zuA _ _ _ _)) rfl (zs (g [[3]] ?_));refine WL.part 27 rfl (fun g27 => ?_) (fun g27 => ?_)
  · try simp only [zq] at g27
    refine g [[15],[6,2,1]] ?_;refine WP.ret1 rfl rfl rfl (RV.tmp rfl) (fun w hI => ⟨zmy qc (by intro h; have h1 := h.low; have h2 := h.quiet; have h3 := h.nhours; have h4 := h.nseen; (simp only [inB, spB, decide_eq_true_eq, decide_eq_false_iff_not] at *; omega)), hI.keep⟩)
  try simp only [zq] at g27
  refine g [[6]] ?_;refine WL.part 33 rfl (fun g33 => ?_) (fun g33 => ?_)
  · try simp only [zq] at g33
    refine g [[9],[6,2,1]] ?_;refine WP.ret1 rfl rfl rfl (RV.tmp rfl) (fun w hI => ⟨zmy qc (by intro h; have h1 := h.low; have h2 := h.quiet; have h3 := h.nhours; have h4 := h.nseen; (simp only [inB, spB, decide_eq_true_eq, decide_eq_false_iff_not] at *; omega)), hI.keep⟩)
  try simp only [zq] at g33
  refine g [[7]] ?_;refine WC.cond rfl (fun c38 => ?_) (fun c38 => ?_)
  · try simp only [zq] at c38
    refine g [[1],[6,2,1]] ?_;refine WP.ret1 rfl rfl rfl (RV.tmp rfl) (fun w hI => ⟨zmy qc (by intro h; have h1 := h.low; have h2 := h.quiet; have h3 := h.nhours; have h4 := h.nseen; (simp only [inB, spB, decide_eq_true_eq, decide_eq_false_iff_not] at *; omega)), hI.keep⟩)
  try simp only [zq] at c38
  refine g [[4],[5,2,1]] ?_;have hA : (1 ≤ f.low ∧ f.low ≤ f.high ∧ f.high ≤ 12) ∧ (1 ≤ f.quiet ∧ f.quiet ≤ 4) ∧ f.hours.length ≤ 9 ∧ f.seen.length ≤ 8 := by (simp only [inB, spB, decide_eq_true_eq, decide_eq_false_iff_not] at *; omega)
  refine WC.loopT [] (fun k : Nat => [(1, pt b1), (3, nt k)]) (fun _ => [(b1, .cells (List.toArray [it f.low, it f.high, it f.quiet, .slice ha f.hours.length hc, .slice sa f.seen.length sc]) 53 (0, 0))]) (fun k => k ≤ f.hours.length ∧ ∀ i, i < k → (0 ≤ (gt f.hours i).wind.lo ∧ (gt f.hours i).wind.lo ≤ (gt f.hours i).wind.hi ∧ (gt f.hours i).wind.hi ≤ 12) ∧ 0 ≤ (gt f.hours i).thunder ∧ (gt f.hours i).thunder ≤ 2) (fun k => f.hours.length - k) 0 ⟨Nat.zero_le _, fun _ h => absurd h (Nat.not_lt_zero _)⟩ rfl ⟨rfl, rfl, trivial⟩ ?_;rintro k ⟨hk, hF⟩;refine g [[2],[8,1,3]] ?_;refine WC.cond rfl (fun c43 => ?_) (fun c43 => ?_)
  · try simp only [zq] at c43
    have hkl : k < f.hours.length := by omega
    refine g [[5],[4,1,3]] ?_;refine WL.yd (Yd.ix rfl rfl (hRh.addr k (by omega))) rfl (WL.yd (Yd.lV [_, _, _] rfl ((hRh.at k (by omega)).rdn 0 3 rfl)) rfl ?_);refine WL.so (SO.alloc ZvF.h rfl) rfl (zw fun b4 hb4 => ?_);refine g [[4],[6,4,1,3]] ?_;refine WL.part 55 rfl (fun g55 => ?_) (fun g55 => ?_)
    · try simp only [zq] at g55
      refine g [[24],[10,1,3]] ?_;refine WP.ret1 rfl rfl rfl (RV.tmp rfl) (fun w hI => ⟨zmy qc (by intro h; have h1 := h.gh hkl; (simp only [inB, spB, decide_eq_true_eq, decide_eq_false_iff_not] at *; omega)), hI.keep⟩)
    try simp only [zq] at g55
    refine g [[9]] ?_;refine WL.part 64 rfl (fun g64 => ?_) (fun g64 => ?_)
    · try simp only [zq] at g64
      refine g [[15],[10,1,3]] ?_;refine WP.ret1 rfl rfl rfl (RV.tmp rfl) (fun w hI => ⟨zmy qc (by intro h; have h1 := h.gh hkl; (simp only [inB, spB, decide_eq_true_eq, decide_eq_false_iff_not] at *; omega)), hI.keep⟩)
    try simp only [zq] at g64
    refine g [[6]] ?_;refine WL.part 70 rfl (fun g70 => ?_) (fun g70 => ?_)
    · try simp only [zq] at g70
      refine g [[9],[10,1,3]] ?_;refine WP.ret1 rfl rfl rfl (RV.tmp rfl) (fun w hI => ⟨zmy qc (by intro h; have h1 := h.gh hkl; (simp only [inB, spB, decide_eq_true_eq, decide_eq_false_iff_not] at *; omega)), hI.keep⟩)
    try simp only [zq] at g70
    refine g [[2]] ?_;refine WL.sog rfl (SO.callP CaF.h rfl (fun w hI => zuA _ _ _ _)) rfl (zs (g [[4]] ?_));refine WC.cond rfl (fun c75 => ?_) (fun c75 => ?_)
    · try simp only [zq] at c75
      refine g [[1],[10,1,3]] ?_;refine WP.ret1 rfl rfl rfl (RV.tmp rfl) (fun w hI => ⟨zmy qc (by intro h; have h1 := h.gh hkl; (simp only [inB, spB, decide_eq_true_eq, decide_eq_false_iff_not] at *; omega)), hI.keep⟩)
    try simp only [zq] at c75
    refine g [[3],[5,1,3]] ?_;exact WP.againT (k + 1) ⟨hkl, (fun i hi => by rcases Nat.lt_or_ge i k with h | h; exact hF i h; obtain rfl : i = k := (by omega); have g9 := zmQ.1 c75; omega)⟩ (by omega) [_] _ rfl rfl ⟨rfl, rfl, trivial⟩
  try simp only [zq] at c43
  obtain rfl : k = f.hours.length := by omega
  refine g [[7],[5,1]] ?_;refine WC.loopT [] (fun k : Nat => [(1, pt b1), (5, nt k)]) (fun _ => [(b1, .cells (List.toArray [it f.low, it f.high, it f.quiet, .slice ha f.hours.length hc, .slice sa f.seen.length sc]) 53 (0, 0))]) (fun k => k ≤ f.seen.length ∧ ∀ i, i < k → inB (gt f.seen i).hour 0 ((f.hours.length : Int) - 1) = true) (fun k => f.seen.length - k) 0 ⟨Nat.zero_le _, fun _ h => absurd h (Nat.not_lt_zero _)⟩ rfl ⟨rfl, rfl, trivial⟩ ?_;rintro k ⟨hk, hG⟩;refine g [[2],[8,1,5]] ?_;refine WC.cond rfl (fun c80 => ?_) (fun c80 => ?_)
  · try simp only [zq] at c80
    have hkl : k < f.seen.length := by omega
    refine g [[5],[0,1,5],[3007],[4]] ?_;refine WQ.q rfl (Yd.qt (Yd.ix rfl rfl (hRs.addr k (by omega)))) rfl (g [[1]] ?_);refine WQ.q rfl (Yd.qt (Yd.l1 rfl ((hRs.at k (by omega)).rd 0 rfl))) rfl (g [[1]] ?_);refine WL.cl rfl (fun w hI => zyZ f ⟨⟨ha, f.hours.length, hc⟩, ⟨sa, f.seen.length, sc⟩⟩ _ D hR _) (g [[3]] ?_);refine WC.cond rfl (fun c91 => ?_) (fun c91 => ?_)
    · try simp only [zq] at c91
      refine g [[1],[10,1,5]] ?_;refine WP.ret1 rfl rfl rfl (RV.tmp rfl) (fun w hI => ⟨zmy qc (by intro h; have h1 := h.seen _ (Ky hkl); (simp only [inB, spB, decide_eq_true_eq, decide_eq_false_iff_not] at *; omega)), hI.keep⟩)
    try simp only [zq] at c91
    refine g [[3],[5,1,5]] ?_;exact WP.againT (k + 1) ⟨hkl, (fun i hi => by rcases Nat.lt_or_ge i k with h | h; exact hG i h; obtain rfl : i = k := (by omega); exact c91)⟩ (by omega) [] _ rfl rfl ⟨rfl, rfl, trivial⟩
  try simp only [zq] at c80
  obtain rfl : k = f.seen.length := by omega
  refine g [[6]] ?_;refine WC.ofFr [] trivial (g [[5]] ?_);refine WP.ret1 rfl rfl rfl (RV.tmp rfl) (fun w hI => ⟨zsc qc (zuj hA hF hG), hI.keep⟩)
theorem zvn (b : xb) (m : zmn) (D : Imm) (hR : zmv D b m) (w : World) (hH : Holds D w) : z8 Tryz.prog 19 [zmP b m] w (.bool (zmD b)) := by
  unfold z8;obtain ⟨⟨ba, bn, bc⟩, ml⟩ := m;have hml : ml.length = b.seen.length := hR.len;have hRs0 : SlL D 1 (ml.map slC) ba bn := hR.sl;obtain rfl : bn = b.seen.length := by have := hRs0.len'; omega
  have hRr : ∀ i, i < b.seen.length → SlL D 5 ((gt b.seen i).map bsC) (gt ml i).a (gt ml i).n := hR.row;have hRn : ∀ i, i < b.seen.length → (gt ml i).n ≤ 9223372036854775807 := hR.nr;have nb : b.seen.length ≤ 9223372036854775807 := hR.n;refine en Tryz.func19 rfl Tryz.ntmps19 (Inv.start hH) (g [[1],[1,0]] ?_);refine WL.so (SO.box rfl rfl) rfl (zw fun b1 hb1 => ?_);refine g [[5],[3,2,1]] ?_;refine WL.cl rfl (fun w hI => zrd _ _ _ _) (g [[2]] ?_);refine WL.part 11 rfl (fun g11 => ?_) (fun g11 => ?_)
  · try simp only [zq] at g11
    refine g [[27],[6,2,1]] ?_;refine WP.ret1 rfl rfl rfl (RV.tmp rfl) (fun w hI => ⟨zmy ww (by intro h; have h1 := h.wide; have h2 := h.deep; have h3 := h.speed; have h4 := h.last; have h5 := h.n; (simp only [inB, spB, decide_eq_true_eq, decide_eq_false_iff_not] at *; omega)), hI.keep⟩)
  try simp only [zq] at g11
  refine g [[2]] ?_;refine WL.sog rfl (SO.callP CaF.h rfl (fun w hI => zrd _ _ _ _)) rfl (zs (g [[3]] ?_));refine WL.part 17 rfl (fun g17 => ?_) (fun g17 => ?_)
  · try simp only [zq] at g17
    refine g [[21],[6,2,1]] ?_;refine WP.ret1 rfl rfl rfl (RV.tmp rfl) (fun w hI => ⟨zmy ww (by intro h; have h1 := h.wide; have h2 := h.deep; have h3 := h.speed; have h4 := h.last; have h5 := h.n; (simp only [inB, spB, decide_eq_true_eq, decide_eq_false_iff_not] at *; omega)), hI.keep⟩)
  try simp only [zq] at g17
  refine g [[2]] ?_;refine WL.sog rfl (SO.callP CaF.h rfl (fun w hI => zrd _ _ _ _)) rfl (zs (g [[3]] ?_));refine WL.part 23 rfl (fun g23 => ?_) (fun g23 => ?_)
  · try simp only [zq] at g23
    refine g [[15],[6,2,1]] ?_;refine WP.ret1 rfl rfl rfl (RV.tmp rfl) (fun w hI => ⟨zmy ww (by intro h; have h1 := h.wide; have h2 := h.deep; have h3 := h.speed; have h4 := h.last; have h5 := h.n; (simp only [inB, spB, decide_eq_true_eq, decide_eq_false_iff_not] at *; omega)), hI.keep⟩)
  try simp only [zq] at g23
  refine g [[2]] ?_;refine WL.sog rfl (SO.callP CaF.h rfl (fun w hI => zrd _ _ _ _)) rfl (zs (g [[3]] ?_));refine WL.part 29 rfl (fun g29 => ?_) (fun g29 => ?_)
  · try simp only [zq] at g29
    refine g [[9],[6,2,1]] ?_;refine WP.ret1 rfl rfl rfl (RV.tmp rfl) (fun w hI => ⟨zmy ww (by intro h; have h1 := h.wide; have h2 := h.deep; have h3 := h.speed; have h4 := h.last; have h5 := h.n; (simp only [inB, spB, decide_eq_true_eq, decide_eq_false_iff_not] at *; omega)), hI.keep⟩)
  try simp only [zq] at g29
  refine g [[7]] ?_;refine WC.cond rfl (fun c34 => ?_) (fun c34 => ?_)
  · try simp only [zq] at c34
    refine g [[1],[6,2,1]] ?_;refine WP.ret1 rfl rfl rfl (RV.tmp rfl) (fun w hI => ⟨zmy ww (by intro h; have h1 := h.wide; have h2 := h.deep; have h3 := h.speed; have h4 := h.last; have h5 := h.n; (simp only [inB, spB, decide_eq_true_eq, decide_eq_false_iff_not] at *; omega)), hI.keep⟩)
  try simp only [zq] at c34
  refine g [[4],[5,2,1]] ?_;have hA : (1 ≤ b.wide ∧ b.wide ≤ 8) ∧ (1 ≤ b.deep ∧ b.deep ≤ 6) ∧ (0 ≤ b.speed ∧ b.speed ≤ 3) ∧ (0 ≤ b.last ∧ b.last ≤ 12) ∧ b.seen.length ≤ 4 := by (simp only [inB, spB, decide_eq_true_eq, decide_eq_false_iff_not] at *; omega)
  refine WC.loopT [] (fun k : Nat => [(1, pt b1), (3, nt k)]) (fun _ => [(b1, .cells (List.toArray [it b.wide, it b.deep, it b.speed, it b.last, .slice ba b.seen.length bc]) 56 (0, 0))]) (fun k => k ≤ b.seen.length ∧ ∀ i, i < k → (gt b.seen i).length ≤ 5 ∧ rowB b 0 (gt b.seen i) = true) (fun k => b.seen.length - k) 0 ⟨Nat.zero_le _, fun _ h => absurd h (Nat.not_lt_zero _)⟩ rfl ⟨rfl, rfl, trivial⟩ ?_;rintro k ⟨hk, hF⟩;refine g [[2],[8,1,3]] ?_;refine WC.cond rfl (fun c39 => ?_) (fun c39 => ?_)
  · try simp only [zq] at c39
    have hkl : k < b.seen.length := by omega
    have hrow := hRr k hkl;have hrl := hrow.len';have hrn := hRn k hkl;refine g [[6],[4,1,3]] ?_;refine WL.yd (Yd.ix rfl rfl (hRs0.addr k (by omega))) rfl (WL.yd (Yd.l1 rfl ((hRs0.at k (by omega)).rd 0 rfl)) rfl (g [[4]] ?_));refine WC.cond rfl (fun c48 => ?_) (fun c48 => ?_)
    · try simp only [zq] at c48
      refine g [[1],[11,1,3]] ?_;refine WP.ret1 rfl rfl rfl (RV.tmp rfl) (fun w hI => ⟨zmy ww (by intro h; have h1 := (h.rows _ (Ky hkl)).1; omega), hI.keep⟩)
    try simp only [zq] at c48
    refine g [[3],[5,1,3],[5,4,1,3]] ?_;refine WC.loopT [] (fun j : Nat => [(1, pt b1), (3, nt k), (4, it (zpU 0 (gt b.seen k) j)), (5, nt j)]) (fun _ => [(b1, .cells (List.toArray [it b.wide, it b.deep, it b.speed, it b.last, .slice ba b.seen.length bc]) 56 (0, 0))]) (fun j => j ≤ (gt b.seen k).length ∧ rowB b 0 ((gt b.seen k).take j) = true) (fun j => (gt b.seen k).length - j) 0 ⟨Nat.zero_le _, by simp [rowB]⟩ rfl ⟨rfl, rfl, rfl, rfl, trivial⟩ ?_;rintro j ⟨hj, hG⟩;refine g [[2],[5,1,3,4,5]] ?_;refine WL.yd (Yd.ix rfl rfl (hRs0.addr k (by omega))) rfl (WL.yd (Yd.l1 rfl ((hRs0.at k (by omega)).rd 0 rfl)) rfl (g [[4]] ?_));refine WC.cond rfl (fun c56 => ?_) (fun c56 => ?_)
    · try simp only [zq] at c56
      have hjl : j < (gt b.seen k).length := by omega
      refine g [[5],[4,1,3,4,5]] ?_;refine WL.yd (Yd.ix rfl rfl (hRs0.addr k (by omega))) rfl (WL.yd (Yd.l1 rfl ((hRs0.at k (by omega)).rd 0 rfl)) rfl (g [[1]] ?_));refine WL.yd (Yd.ix rfl rfl (hrow.addr j (by omega))) rfl (WL.yd (Yd.lV [_, _, _, _, _] rfl ((hrow.at j (by omega)).rdn 0 5 rfl)) rfl ?_);refine WL.so (SO.alloc ZvF.h rfl) rfl (zw fun b6 hb6 => ?_);refine g [[5],[6,6,1,3,4,5]] ?_;refine WL.cl rfl (fun w hI => zrd _ _ _ _) (g [[2]] ?_);refine WL.part 74 rfl (fun g74 => ?_) (fun g74 => ?_)
      · try simp only [zq] at g74
        refine g [[21],[15,6,1,3,4,5]] ?_;refine WP.ret1 rfl rfl rfl (RV.tmp rfl) (fun w hI => ⟨zmy ww (by intro h; have h1 := zo5 _ _ (j + 1) (h.rows _ (Ky hkl)).2; rw [zmZ _ _ _ hjl] at h1; unfold zsh at h1; simp_all), hI.keep⟩)
      try simp only [zq] at g74
      refine g [[5]] ?_;refine WL.sog rfl (SO.callP CaF.h rfl (fun w hI => zt8 (gt (gt b.seen k) j).cols (b.wide - 1) _)) rfl (zs (g [[3]] ?_));refine WL.part 83 rfl (fun g83 => ?_) (fun g83 => ?_)
      · try simp only [zq] at g83
        refine g [[12],[15,6,1,3,4,5]] ?_;refine WP.ret1 rfl rfl rfl (RV.tmp rfl) (fun w hI => ⟨zmy ww (by intro h; have h1 := zo5 _ _ (j + 1) (h.rows _ (Ky hkl)).2; rw [zmZ _ _ _ hjl] at h1; unfold zsh at h1; simp_all), hI.keep⟩)
      try simp only [zq] at g83
      refine g [[5]] ?_;refine WL.sog rfl (SO.callP CaF.h rfl (fun w hI => zt8 (gt (gt b.seen k) j).rows (b.deep - 1) _)) rfl (zs (g [[4]] ?_));refine WC.cond rfl (fun c91 => ?_) (fun c91 => ?_)
      · try simp only [zq] at c91
        refine g [[1],[15,6,1,3,4,5]] ?_;refine WP.ret1 rfl rfl rfl (RV.tmp rfl) (fun w hI => ⟨zmy ww (by intro h; have h1 := zo5 _ _ (j + 1) (h.rows _ (Ky hkl)).2; rw [zmZ _ _ _ hjl] at h1; unfold zsh at h1; simp_all), hI.keep⟩)
      try simp only [zq] at c91
      refine g [[2],[7,6,1,3,4,5],[5,4,1,3,5]] ?_;exact WP.againT (j + 1) ⟨hjl, by rw [zmZ _ _ _ hjl, hG]; unfold zsh; simp_all⟩ (by omega) [_] _ rfl rfl ⟨rfl, rfl, rfl, rfl, trivial⟩
    try simp only [zq] at c56
    obtain rfl : j = (gt b.seen k).length := by omega
    refine g [[6],[5,1,3]] ?_;exact WP.againT (k + 1) ⟨hkl, (fun i hi => by rcases Nat.lt_or_ge i k with h | h; exact hF i h; obtain rfl : i = k := (by omega); exact ⟨by omega, by rw [List.take_length] at hG; exact hG⟩)⟩ (by omega) [] _ rfl rfl ⟨rfl, rfl, trivial⟩
  try simp only [zq] at c39
  obtain rfl : k = b.seen.length := by omega
  refine g [[6]] ?_;refine WC.ofFr [] trivial (g [[5]] ?_);refine WP.ret1 rfl rfl rfl (RV.tmp rfl) (fun w hI => ⟨zsc ww (zto hA hF), hI.keep⟩)
theorem zxZ (l1 l2 : Bs) (a1 a2 : Option Addr) (n1 n2 c1 c2 : Nat) (D : Imm) (hS1 : SlL D 1 (l1.map btC) a1 n1) (hS2 : SlL D 1 (l2.map btC) a2 n2) (w : World) (hH : Holds D w) : z8 Tryz.prog 37 [.slice a1 n1 c1, .slice a2 n2 c2] w (.bool (decide (l1 = l2))) := by
  unfold z8;refine en Tryz.func37 rfl Tryz.ntmps37 (Inv.start hH) (g [[1],[5,0,1],[2,4,0,1]] ?_);refine WL.yd (Yd.convBytes (l := l1) UnF.h UnF.h UnF.h rfl hS1) rfl (g [[1]] ?_);refine WL.yd (Yd.convBytes (l := l2) UnF.h UnF.h UnF.h rfl hS2) rfl (WL.yd (Yd.eqS' rfl rfl) rfl (g [[4]] ?_));refine WP.ret1 rfl rfl rfl (RV.tmp rfl) (fun w hI => ⟨rfl, hI.keep⟩)
end Go.Proofs.YtaiegbjgfdhgaaaGreatDoor
