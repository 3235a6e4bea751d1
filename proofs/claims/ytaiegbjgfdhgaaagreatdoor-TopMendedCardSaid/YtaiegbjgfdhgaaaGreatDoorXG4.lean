import Derived.Test.YtaiegbjgfdhgaaaGreatDoorXG3
import Derived.Test.YtaiegbjgfdhgaaaGreatDoorXG0
import Derived.Test.YtaiegbjgfdhgaaaGreatDoorXG1
import Derived.Test.YtaiegbjgfdhgaaaGreatDoorXG2
set_option linter.all false
set_option maxRecDepth 100000
set_option maxHeartbeats 4000000
attribute [local irreducible] Go.W.WL Go.W.WLF Go.W.WC Go.W.WCF Go.W.WP Go.W.WA Go.W.WQ Go.W.WH Go.W.WHo Go.W.WCn Go.W.Yd Go.W.Qt Go.W.SO Go.Code.wp Go.Code.wpIn
namespace Go.Proofs.YtaiegbjgfdhgaaaGreatDoor
open Go.W Go.Bk
theorem zyM : zj Tryz.prog 254 [.nilFunc] [(0, 1)] := ⟨⟨_, Tryz.zeroValue254, rfl⟩, _, Tryz.underlying254, fun w => by simp [Tryz.sizeOf252]⟩
abbrev zwT := SaF.mk zyM
attribute [instance] zwT
def zuY (x : xb) (o : Option Ow) : List Value := [it x.wide, it x.deep, it x.speed, it x.last, owV o x.seen.length]
structure zxh (w0 : World) (b : Nat) (k : Nat) (x : xb) (M : List Sl) (o : Option Ow) (D : Imm) (h : Hp) : Prop where
  len : M.length = x.seen.length
  row : ∀ i, i < x.seen.length → SlL D 5 ((gt x.seen i).map bsC) (gt M i).a (gt M i).n ∧ (gt M i).n ≤ 2 ^ 30
  ro : owP w0 o x.seen.length 1
  n : x.seen.length ≤ k
  e : h = (b, .cells (zuY x o).toArray 56 (0, 0)) :: owH o 57 (M.flatMap slC) []
def zri (w0 : World) (b : Nat) (k : Nat) (x : xb) (D : Imm) (h : Hp) : Prop := ∃ M o, zxh w0 b k x M o D h
theorem zri.ext {w w0 : World} {b k : Nat} {x : xb} {D D' : Imm} {h : Hp} (hD : DExt w D D') (hS : zri w0 b k x D h) : zri w0 b k x D' h := by
  obtain ⟨M, o, hS⟩ := hS;exact ⟨M, o, hS.len, fun i hi => ⟨(hS.row i hi).1.ext hD, (hS.row i hi).2⟩, hS.ro, hS.n, hS.e⟩
theorem zsk {X : Type} {z x : X} {take : X → Nat → Bs → Option X} {is : X → Bool} {put : X → Bs} {s : Bs} (h : s.length ≤ 1200) (h2 : zvk take z 0 (lns s) = some x) (h3 : is x = true → put x ≠ s) : zo3 z take is put s = (z, 8) := by
  unfold zo3; rw [if_neg (by omega), h2]; simp only; rw [if_neg (fun h => h3 h.1 h.2)]
theorem zyG : zj Tryz.prog 151 [.nilFunc, .nilFunc, .nilFunc] [(0, 1), (1, 1), (2, 1)] := ⟨⟨_, Tryz.zeroValue151, rfl⟩, _, Tryz.underlying151, fun w => by simp [Tryz.sizeOf58, Tryz.sizeOf148, Tryz.sizeOf149]⟩
abbrev zwN := SaF.mk zyG
attribute [instance] zwN
theorem zyH : zj Tryz.prog 157 [.nilFunc, .nilFunc, .nilFunc] [(0, 1), (1, 1), (2, 1)] := ⟨⟨_, Tryz.zeroValue157, rfl⟩, _, Tryz.underlying157, fun w => by simp [Tryz.sizeOf59, Tryz.sizeOf154, Tryz.sizeOf155]⟩
abbrev zwO := SaF.mk zyH
attribute [instance] zwO
theorem zyI : zj Tryz.prog 163 [.nilFunc, .nilFunc, .nilFunc] [(0, 1), (1, 1), (2, 1)] := ⟨⟨_, Tryz.zeroValue163, rfl⟩, _, Tryz.underlying163, fun w => by simp [Tryz.sizeOf60, Tryz.sizeOf160, Tryz.sizeOf161]⟩
abbrev zwP := SaF.mk zyI
attribute [instance] zwP
def wrO {X : Type} (is : X → Bool) (put : X → Bs) (x : X) : Bs × Int := if is x = true then (put x, 0) else ([], 1)
section
variable {X : Type} {is : X → Bool} {put : X → Bs} {x : X}
include X is put x
theorem zsR (h : is x = true) : wrO is put x = (put x, 0) := if_pos h
theorem zuR (h : is x = false) : wrO is put x = ([], 1) := if_neg (by simp [h])
end
theorem zot (w : World) : z8 Tryz.prog 81 [] w (.agg #[.func (.func 150) #[] #[], .func (.func 151) #[] #[], .func (.func 152) #[] #[]]) := by
  unfold z8;refine en Tryz.func81 rfl Tryz.ntmps81 zI (g [[1]] ?_);refine WC.ofFr [] trivial (g [[1]] ?_);refine WL.so (SO.alloc ZvF.h rfl) rfl (zw fun b0 hb0 => ?_);refine g [[3],[6,0]] ?_;refine WP.ret1 rfl rfl rfl (RV.cellN AgF.h SzF.h rfl (vs := [_, _, _]) rfl (RdN.own (k := 0) (n := 3) rfl rfl)) (fun w hI => ⟨rfl, hI.keep⟩)
theorem znM (x : xb) (m : k4) (h : zmP x = true) (D : Imm) {kM : Bool} (hL : LibD kM D) (hR : zmz D x m) (w : World) (hH : Holds D w) : z8 Tryz.prog 80 [.agg #[.func (.func 150) #[] #[], .func (.func 151) #[] #[], .func (.func 152) #[] #[]], znc x m] w (st (zn8 x)) := by
  unfold z8;refine en Tryz.func80 rfl Tryz.ntmps80 (Inv.start hH) (g [[1],[1,0,1]] ?_);refine WL.so (SO.box rfl rfl) rfl (zw fun b2 hb2 => ?_);refine WL.so (SO.box rfl rfl) rfl (zw fun b3 hb3 => ?_);refine g [[4],[4,4,3,2]] ?_;refine WL.so (SO.call (Enters.val CaF.h rfl rfl) (fun w hI => zpr x m D _ hR hI.imm)) rfl (zs ?_);refine WL.know 8 (.bool true) rfl (congrArg Value.bool h) (WL.cl rfl (fun w hI => zmK _ _) (g [[3],[4,4,3,2]] ?_));refine WL.so (SO.call (Enters.val CaF.h rfl rfl) (fun w hI => zr6 x m (znT.1 h) D hL hR _ hI.imm)) rfl (zs (g [[4]] ?_));refine WP.ret1 rfl rfl rfl (RV.tmp rfl) (fun w hI => ⟨rfl, hI.keep⟩)
theorem znL (x : xb) (m : k4) (h : zmP x = false) (D : Imm) {kM : Bool} (hL : LibD kM D) (hR : zmz D x m) (w : World) (hH : Holds D w) : xC Tryz.prog 80 [.agg #[.func (.func 150) #[] #[], .func (.func 151) #[] #[], .func (.func 152) #[] #[]], znc x m] w (zpI 1) := by
  unfold xC;refine en Tryz.func80 rfl Tryz.ntmps80 (Inv.start hH) (g [[1],[1,0,1]] ?_);refine WL.so (SO.box rfl rfl) rfl (zw fun b2 hb2 => ?_);refine WL.so (SO.box rfl rfl) rfl (zw fun b3 hb3 => ?_);refine g [[4],[4,4,3,2]] ?_;refine WL.so (SO.call (Enters.val CaF.h rfl rfl) (fun w hI => zpr x m D _ hR hI.imm)) rfl (zs ?_);refine WL.know 8 (.bool false) rfl (congrArg Value.bool h) (WL.nf rfl (fun w hI => zmw _ _) (g [[1]] ?_));refine WP.panicBody rfl (fun w hI => ⟨rfl, hI.keep⟩)
theorem zpb (x : xb) (m : k4) (D : Imm) {kM : Bool} (hL : LibD kM D) (hR : zmz D x m) (w : World) (hH : Holds D w) : z8 Tryz.prog 22 [znc x m] w (.tuple #[st (wrO zmP zn8 x).1, it (wrO zmP zn8 x).2]) := by
  unfold z8;refine enD Tryz.func22 rfl Tryz.ntmps22 (Inv.start hH) (g [[1],[1,0]] ?_);refine WL.so (SO.box rfl rfl) rfl (zw fun b1 hb1 => ?_);refine g [[1]] ?_;refine WL.so (SO.alloc ZvF.h rfl) rfl (zw fun b3 hb3 => ?_);refine g [[3],[1,3,2,1]] ?_;refine WL.deferA rfl (g [[3],[0,3,2,1]] ?_);refine WC.drawH [(b1, _)] zk (fun _ hI => hI.tail) ?_;refine WH.two (i := 0) (j := 1) zk ?_ ?_
  · refine WHo.so rfl (SO.callP CaF.h rfl (fun w hI => zot _)) rfl (zs ⟨(fun _ hI => hI.tail), ?_⟩);refine WH.one (i := 1) zk (WHo.yd rfl (Yd.lV [_, _, _, _, _] rfl (RdN.own (k := 1) (n := 5) rfl rfl)) rfl ?_);rcases h6 : zmP x with _ | _
    · refine WH.one (i := 2) zk (WHo.no rfl (SO.fail (Enters.func CaF.h rfl) (fun w hI => znL x m h6 D hL hR _ hI.imm) (g [[1]] ?_)));refine WP.panicDA (k := 0) [_, _] [_, _] rfl CaF.h rfl (fun w hI => qa b3 1 0 _ w (hI.own _ _ (List.mem_of_getElem? (i := 0) rfl))) rfl zV (fun w hI => ⟨congrArg Ending.returned (by rw [zuR h6]; rfl), hI.keep⟩)
    skip;refine WH.one (i := 2) zk (WHo.so rfl (SO.callP CaF.h rfl (fun w hI => znM x m h6 D hL hR _ hI.imm)) rfl (zs ⟨(fun _ hI => hI.tail), ?_⟩));refine WH.one (i := 3) zk (WHo.yd rfl (Yd.assign rfl) rfl ?_);refine WH.one (i := 4) zk (WHo.so rfl (SO.store 0 rfl SzF.h rfl rfl rfl rfl (zqb rfl) (za rfl)) rfl ?_);rintro _ _ _ ⟨rfl, rfl, rfl⟩;refine ⟨(fun _ hI => hI.tail), ?_⟩;refine WH.nil zk (g [[2]] ?_);refine WP.endDA [_, _] [_, _] rfl rfl CaF.h (fun w hI => zmv b3 w) rfl zV (fun w hI => ⟨congrArg Ending.returned (by rw [zsR h6]; rfl), hI.keep⟩)
  refine WHo.yd rfl (Yd.lV [_, _, _, _, _] rfl (RdN.own (k := 1) (n := 5) rfl rfl)) rfl ?_;refine WH.one (i := 0) zk (WHo.so rfl (SO.callP CaF.h rfl (fun w hI => zot _)) rfl (zs ⟨(fun _ hI => hI.tail), ?_⟩));rcases h6 : zmP x with _ | _
  · refine WH.one (i := 2) zk (WHo.no rfl (SO.fail (Enters.func CaF.h rfl) (fun w hI => znL x m h6 D hL hR _ hI.imm) (g [[1]] ?_)));refine WP.panicDA (k := 0) [_, _] [_, _] rfl CaF.h rfl (fun w hI => qa b3 1 0 _ w (hI.own _ _ (List.mem_of_getElem? (i := 0) rfl))) rfl zV (fun w hI => ⟨congrArg Ending.returned (by rw [zuR h6]; rfl), hI.keep⟩)
  skip;refine WH.one (i := 2) zk (WHo.so rfl (SO.callP CaF.h rfl (fun w hI => znM x m h6 D hL hR _ hI.imm)) rfl (zs ⟨(fun _ hI => hI.tail), ?_⟩));refine WH.one (i := 3) zk (WHo.yd rfl (Yd.assign rfl) rfl ?_);refine WH.one (i := 4) zk (WHo.so rfl (SO.store 0 rfl SzF.h rfl rfl rfl rfl (zqb rfl) (za rfl)) rfl ?_);rintro _ _ _ ⟨rfl, rfl, rfl⟩;refine ⟨(fun _ hI => hI.tail), ?_⟩;refine WH.nil zk (g [[2]] ?_);refine WP.endDA [_, _] [_, _] rfl rfl CaF.h (fun w hI => zmv b3 w) rfl zV (fun w hI => ⟨congrArg Ending.returned (by rw [zsR h6]; rfl), hI.keep⟩)
end Go.Proofs.YtaiegbjgfdhgaaaGreatDoor
namespace Go.Bk
structure Mv where
  at_ : Int
  place : Int
  long : Sp
deriving DecidableEq, Inhabited
structure Hors where
  pace : Int
  moves : List Mv
deriving DecidableEq, Inhabited
def moveB (m : Mv) : Bool := inB m.at_ 0 200 && inB m.place 0 30 && spB m.long 1 20
def qn (h : Hors) : Bool := inB h.pace 0 3 && decide (h.moves.length ≤ 7) && h.moves.all moveB
structure zmV (h : Hors) : Prop where
  pace : 0 ≤ h.pace ∧ h.pace ≤ 3
  n : h.moves.length ≤ 7
  moves : ∀ m ∈ h.moves, (0 ≤ m.at_ ∧ m.at_ ≤ 200) ∧ (0 ≤ m.place ∧ m.place ≤ 30) ∧ 1 ≤ m.long.lo ∧ m.long.lo ≤ m.long.hi ∧ m.long.hi ≤ 20
theorem qs {h : Hors} : qn h = true ↔ zmV h := by
  simp only [qn, moveB, inB, spB, Bool.and_eq_true, List.all_eq_true, decide_eq_true_eq];constructor
  · rintro ⟨⟨a, b⟩, c⟩;exact ⟨a, b, fun m hm => ⟨(c m hm).1.1, (c m hm).1.2, (c m hm).2⟩⟩
  · rintro ⟨a, b, c⟩;exact ⟨⟨a, b⟩, fun m hm => ⟨⟨(c m hm).1, (c m hm).2.1⟩, (c m hm).2.2⟩⟩
def digL (n : Nat) : Bs := if n < 125 then [UInt8.ofNat (n + 125)] else [UInt8.ofNat (n / 125), UInt8.ofNat (n % 125 + 125)]
def zmM (m : Mv) : List Nat := [m.at_.toNat, m.place.toNat, m.long.lo.toNat, (m.long.hi - m.long.lo).toNat]
def k2 (h : Hors) : Bs := (digL h.pace.toNat ++ digL h.moves.length) ++ h.moves.flatMap fun m => (zmM m).flatMap digL
def sumF : Nat → Nat → Nat → Bs → Nat × Nat
  | _, p, q, [] => (p, q)
  | i, p, q, x :: r => sumF (i + 1) ((p + x.toNat) % 251) ((q + (i + 1) % 251 * x.toNat) % 251) r
def kd (l : Bs) : Nat × Nat := sumF 0 0 0 l
def takF : Nat → Nat → Nat → Bs → Nat × Nat
  | _, p, q, [] => (p, q)
  | i, p, q, x :: r => takF (i + 1) ((p + (251 - x.toNat % 251)) % 251) ((q + (i + 1) % 251 * (251 - x.toNat % 251)) % 251) r
def zr8 (l : Bs) : Bs := l ++ [UInt8.ofNat (kd l).1, UInt8.ofNat (kd l).2]
def zmX (h : Hors) : Bs := zr8 (k2 h)
def zmD : Nat → Nat → List Nat → Bs → Option (List Nat)
  | _, many, out, [] => if many = 0 then some out else none
  | n, many, out, x :: r => if many < 3 then
      if 125 ≤ x.toNat then zmD 0 0 (out ++ [125 * n + x.toNat % 125]) r else zmD (125 * n + x.toNat % 125) (many + 1) out r
    else none
def zmI : List Nat → List Mv
  | a :: b :: c :: d :: r => ⟨a, b, ⟨c, (c : Int) + d⟩⟩ :: zmI r
  | _ => []
def znz (l : List Nat) : Hors := ⟨((l.getD 0 0 : Nat) : Int), zmI (l.drop 2)⟩
def zo2 : Hors := ⟨0, []⟩
def zmp (b : Bs) : Int := if 250 < b.length then 3 else if 2 ≤ b.length ∧ (b.any fun x => decide (251 ≤ x.toNat)) = false then 0 else 8
def js (b : Bs) : Bs := b.take (b.length - 2)
def zmB (b : Bs) : Nat × Nat := ((b.getD (b.length - 2) 0).toNat, (b.getD (b.length - 1) 0).toNat)
def znb (b : Bs) : Hors × Int :=
  if zmp b ≠ 0 then (zo2, zmp b) else if zmB b ≠ kd (js b) then (zo2, 10) else match zmD 0 0 [] (js b) with
  | none => (zo2, 8)
  | some l => if 2 ≤ l.length ∧ l.length % 4 = 2 then if qn (znz l) = true ∧ zmX (znz l) = b then (znz l, 0) else (zo2, 8) else (zo2, 8)
def quoN (a b : Nat) : Nat := ((List.range 251).find? fun q => q * b % 251 == a).getD 0
def qc (b : Bs) : Nat × Nat := takF 0 (zmB b).1 (zmB b).2 (js b)
def zmL (b : Bs) : Bs × Int :=
  if zmp b ≠ 0 then ([], zmp b) else if zmB b = kd (js b) then ([], 4) else
  if (qc b).2 = 0 then (b.set (b.length - 2) (UInt8.ofNat (kd (js b)).1), 0) else
  if (qc b).1 = 0 then (b.set (b.length - 1) (UInt8.ofNat (kd (js b)).2), 0) else
  if 1 ≤ quoN (qc b).2 (qc b).1 ∧ quoN (qc b).2 (qc b).1 ≤ b.length - 2 then
    (b.set (quoN (qc b).2 (qc b).1 - 1) (UInt8.ofNat (((b.getD (quoN (qc b).2 (qc b).1 - 1) 0).toNat + (qc b).1) % 251)), 0)
  else ([], 11)
def wrH (h : Hors) : Bs × Int := if qn h = true then (zmX h, 0) else ([], 1)
end Go.Bk
namespace Go.Proofs.YtaiegbjgfdhgaaaGreatDoor
open Go.W Go.Bk
def mvC (m : Mv) : List Value := [it m.at_, it m.place, it m.long.lo, it m.long.hi]
theorem zpZ : ∀ s, (mvC s).length = 4 := fun _ => rfl
abbrev k3 (h : Hors) (m : Sl) : Value := .agg #[it h.pace, slV m]
structure Ky (D : Imm) (h : Hors) (m : Sl) : Prop where
  r : SlL D 4 (h.moves.map mvC) m.a m.n
  n : m.n ≤ 9223372036854775807
theorem Ky.ext {w : World} {D D' : Imm} (hD : DExt w D D') {h : Hors} {m : Sl} (hR : Ky D h m) : Ky D' h m := ⟨hR.r.ext hD, hR.n⟩
def btC (b : UInt8) : List Value := [bt b]
theorem zmo : ∀ s, (btC s).length = 1 := fun _ => rfl
def ntC (n : Nat) : List Value := [nt n]
theorem zok : ∀ s, (ntC s).length = 1 := fun _ => rfl
theorem zqu (h : Hors) (m : Sl) (D : Imm) (w : World) (hR : Ky D h m) (hH : Holds D w) : z8 Tryz.prog 41 [k3 h m] w (.bool (qn h)) := by
  unfold z8;obtain ⟨ma, mn, mc⟩ := m;obtain rfl : mn = h.moves.length := hR.r.len';have hRm : SlL D 4 (h.moves.map mvC) ma h.moves.length := hR.r;have nm : h.moves.length ≤ 9223372036854775807 := hR.n;refine en Tryz.func41 rfl Tryz.ntmps41 (Inv.start hH) (g [[1],[1,0]] ?_);refine WL.so (SO.box rfl rfl) rfl (zw fun b1 hb1 => ?_);refine g [[3]] ?_;refine WC.seqJ (α := Unit) (fun _ => [(1, pt b1), (3, .bool (inB h.pace 0 3 && decide (h.moves.length ≤ 7)))]) (fun _ => [(b1, .cells (List.toArray [it h.pace, .slice ma h.moves.length mc]) 24 (0, 0))]) (fun _ => D) (fun _ => True) ?_ ?_
  · rintro _ -;refine g [[2],[8,1,3]] ?_;refine WC.loopF (fun k : Nat => [(1, pt b1), (3, .bool ((inB h.pace 0 3 && decide (h.moves.length ≤ 7)) && (h.moves.take k).all moveB)), (16, .slice ma h.moves.length mc), (17, nt h.moves.length), (18, nt k)]) (fun k => k ≤ h.moves.length) (fun k => h.moves.length - k) 0 (Nat.zero_le _) ⟨rfl, xx (by simp), rfl, rfl, rfl, trivial⟩ ?_;intro k hk;refine g [[1],[5,1,3,16,17,18]] ?_;refine WC.cond rfl (fun c19 => ?_) (fun c19 => ?_)
    · try simp only [zq] at c19
      have hkl : k < h.moves.length := by omega
      refine g [[5],[1,1,3,16,17,18]] ?_;refine WL.yd (Yd.ix rfl rfl (hRm.addr k (by omega))) rfl (WL.yd (Yd.lV [_, _, _, _] rfl ((hRm.at k (by omega)).rdn 0 4 rfl)) rfl ?_);refine WL.so (SO.alloc ZvF.h rfl) rfl (zw fun b5 hb5 => ?_);refine g [[3],[3,5,1,3,16,17,18]] ?_;refine WL.part 23 rfl (fun g23 => ?_) (fun g23 => ?_)
      · refine g [[2]] ?_;refine WL.sog rfl (SO.callP CaF.h rfl (fun w hI => zmS _ _ _ _)) rfl (zs (g [[2]] ?_));refine WL.part 28 rfl (fun g28 => ?_) (fun g28 => ?_)
        · refine g [[2]] ?_;refine WL.sog rfl (SO.callP CaF.h rfl (fun w hI => zmS _ _ _ _)) rfl (zs (g [[2]] ?_));refine WL.part 33 rfl (fun g33 => ?_) (fun g33 => ?_)
          · refine g [[2]] ?_;refine WL.sog rfl (SO.callP CaF.h rfl (fun w hI => Xv (gt h.moves k).long 1 20 _)) rfl (zs (g [[5],[4,3,1,16,17,18]] ?_));exact WP.againF (k + 1) hkl (by omega) ⟨rfl, xx (by rw [znD hkl]; exact bs3 (fun a b c => by first | rfl | assumption | (exact bnc a (by assumption)) | (exact bnc (by assumption) a) | (exact bnc b (by assumption)) | (exact bnc (by assumption) b) | (exact bnc c (by assumption)) | (exact bnc (by assumption) c)) (fun a b c => by first | rfl | assumption | (exact bnc a (by assumption)) | (exact bnc (by assumption) a) | (exact bnc b (by assumption)) | (exact bnc (by assumption) b) | (exact bnc c (by assumption)) | (exact bnc (by assumption) c)) (fun a b => by first | rfl | assumption | (exact bnc a (by assumption)) | (exact bnc (by assumption) a) | (exact bnc b (by assumption)) | (exact bnc (by assumption) b) | (exact bnc c (by assumption)) | (exact bnc (by assumption) c)) (fun a => by first | rfl | assumption | (exact bnc a (by assumption)) | (exact bnc (by assumption) a) | (exact bnc b (by assumption)) | (exact bnc (by assumption) b) | (exact bnc c (by assumption)) | (exact bnc (by assumption) c))), rfl, rfl, rfl, trivial⟩ (fun _ h => List.mem_cons_of_mem _ h) (fun h => (List.nodup_cons.1 h).2)
          refine g [[8],[4,3,1,16,17,18]] ?_;exact WP.againF (k + 1) hkl (by omega) ⟨rfl, xx (by rw [znD hkl]; exact bs3 (fun a b c => by first | rfl | assumption | (exact bnc a (by assumption)) | (exact bnc (by assumption) a) | (exact bnc b (by assumption)) | (exact bnc (by assumption) b) | (exact bnc c (by assumption)) | (exact bnc (by assumption) c)) (fun a b c => by first | rfl | assumption | (exact bnc a (by assumption)) | (exact bnc (by assumption) a) | (exact bnc b (by assumption)) | (exact bnc (by assumption) b) | (exact bnc c (by assumption)) | (exact bnc (by assumption) c)) (fun a b => by first | rfl | assumption | (exact bnc a (by assumption)) | (exact bnc (by assumption) a) | (exact bnc b (by assumption)) | (exact bnc (by assumption) b) | (exact bnc c (by assumption)) | (exact bnc (by assumption) c)) (fun a => by first | rfl | assumption | (exact bnc a (by assumption)) | (exact bnc (by assumption) a) | (exact bnc b (by assumption)) | (exact bnc (by assumption) b) | (exact bnc c (by assumption)) | (exact bnc (by assumption) c))), rfl, rfl, rfl, trivial⟩ (fun _ h => List.mem_cons_of_mem _ h) (fun h => (List.nodup_cons.1 h).2)
        refine g [[13],[4,3,1,16,17,18]] ?_;exact WP.againF (k + 1) hkl (by omega) ⟨rfl, xx (by rw [znD hkl]; exact bs3 (fun a b c => by first | rfl | assumption | (exact bnc a (by assumption)) | (exact bnc (by assumption) a) | (exact bnc b (by assumption)) | (exact bnc (by assumption) b) | (exact bnc c (by assumption)) | (exact bnc (by assumption) c)) (fun a b c => by first | rfl | assumption | (exact bnc a (by assumption)) | (exact bnc (by assumption) a) | (exact bnc b (by assumption)) | (exact bnc (by assumption) b) | (exact bnc c (by assumption)) | (exact bnc (by assumption) c)) (fun a b => by first | rfl | assumption | (exact bnc a (by assumption)) | (exact bnc (by assumption) a) | (exact bnc b (by assumption)) | (exact bnc (by assumption) b) | (exact bnc c (by assumption)) | (exact bnc (by assumption) c)) (fun a => by first | rfl | assumption | (exact bnc a (by assumption)) | (exact bnc (by assumption) a) | (exact bnc b (by assumption)) | (exact bnc (by assumption) b) | (exact bnc c (by assumption)) | (exact bnc (by assumption) c))), rfl, rfl, rfl, trivial⟩ (fun _ h => List.mem_cons_of_mem _ h) (fun h => (List.nodup_cons.1 h).2)
      refine g [[18],[4,3,1,16,17,18]] ?_;exact WP.againF (k + 1) hkl (by omega) ⟨rfl, xx (by rw [znD hkl]; exact bs3 (fun a b c => by first | rfl | assumption | (exact bnc a (by assumption)) | (exact bnc (by assumption) a) | (exact bnc b (by assumption)) | (exact bnc (by assumption) b) | (exact bnc c (by assumption)) | (exact bnc (by assumption) c)) (fun a b c => by first | rfl | assumption | (exact bnc a (by assumption)) | (exact bnc (by assumption) a) | (exact bnc b (by assumption)) | (exact bnc (by assumption) b) | (exact bnc c (by assumption)) | (exact bnc (by assumption) c)) (fun a b => by first | rfl | assumption | (exact bnc a (by assumption)) | (exact bnc (by assumption) a) | (exact bnc b (by assumption)) | (exact bnc (by assumption) b) | (exact bnc c (by assumption)) | (exact bnc (by assumption) c)) (fun a => by first | rfl | assumption | (exact bnc a (by assumption)) | (exact bnc (by assumption) a) | (exact bnc b (by assumption)) | (exact bnc (by assumption) b) | (exact bnc c (by assumption)) | (exact bnc (by assumption) c))), rfl, rfl, rfl, trivial⟩ (fun _ h => List.mem_cons_of_mem _ h) (fun h => (List.nodup_cons.1 h).2)
    try simp only [zq] at c19
    obtain rfl : k = h.moves.length := by omega
    refine g [[6],[6,3]] ?_;refine WP.ret1 rfl rfl rfl (RV.tmp rfl) (fun w hI => ⟨zb (by rw [List.take_length]; rfl), hI.keep⟩)
  skip;refine g [[3,2,1]] ?_;refine WL.cl rfl (fun w hI => zmS _ _ _ _) (g [[1]] ?_);refine WL.part 9 rfl (fun g9 => ?_) (fun g9 => ?_)
  · refine g [[7]] ?_;exact WP.join () trivial (fun a w h => yi h ⟨rfl, xx (by first | (simp_all; done) | (rw [Bool.eq_iff_iff]; simp_all; done) | (rw [Bool.eq_iff_iff]; simp_all; omega)), trivial⟩ (fun _ h => h) (fun h => h))
  refine g [[7]] ?_;exact WP.join () trivial (fun a w h => yi h ⟨rfl, xx (by first | (simp_all; done) | (rw [Bool.eq_iff_iff]; simp_all; done) | (rw [Bool.eq_iff_iff]; simp_all; omega)), trivial⟩ (fun _ h => h) (fun h => h))
theorem zy1 (b c : Nat) (u : UInt8) (rest : List Value) (D : Imm) (w : World) (hI : Inv D [(b, .cells ([bt u] ++ rest).toArray 5 (0, 0))] [b] w w) : wP Tryz.prog 182 [.slice (some ⟨b, 0, none⟩) 1 c] w D [b] (fun _ D' h' => D = D' ∧ h' = [(b, .cells ([bt u] ++ rest).toArray 5 (0, 0))]) := by
  unfold wP;refine en Tryz.func182 rfl Tryz.ntmps182 hI (g [[1],[3,0]] ?_);refine WL.yd (Yd.sub rfl rfl (wr64 ⟨by (try dsimp only); omega, by (try dsimp only); omega⟩)) rfl (g [[5]] ?_);refine WC.loopT [] (fun y : Nat × List Value => [(0, .slice (some ⟨b, 0, none⟩) 1 c), (2, nt y.1), (3, it (0 - (y.1 : Int)))]) (fun y => [(b, .cells (y.2 ++ rest).toArray 5 (0, 0))]) (fun y => (y.1 = 0 ∧ y.2 = [bt u]) ∨ (y.1 = 1 ∧ y.2 = [bt u] ∧ 1 = 2)) (fun y => 1 - y.1) (0, [bt u]) (.inl ⟨rfl, rfl⟩) rfl ⟨rfl, rfl, rfl, trivial⟩ ?_;rintro ⟨k, cs⟩ hk;dsimp only at hk;refine g [[2],[6,0,2,3]] ?_;refine WC.cond rfl (fun c9 => ?_) (fun c9 => ?_)
  · try simp only [zq] at c9
    exfalso; rcases hk with h | h <;> omega
    skip
  try simp only [zq] at c9
  obtain ⟨rfl, rfl⟩ : k = 0 ∧ cs = [bt u] := by rcases hk with h | h; exact h; omega
  refine g [[4]] ?_;refine WP.ret0 rfl rfl rfl  (fun w hI => ⟨_, D, _, rfl, DExt.refl _ _, hI, (fun _ h => h), rfl, rfl⟩)
theorem zy2 (b c : Nat) (u v : UInt8) (rest : List Value) (D : Imm) (w : World) (hI : Inv D [(b, .cells ([bt u, bt v] ++ rest).toArray 5 (0, 0))] [b] w w) : wP Tryz.prog 182 [.slice (some ⟨b, 0, none⟩) 2 c] w D [b] (fun _ D' h' => D = D' ∧ h' = [(b, .cells ([bt v, bt u] ++ rest).toArray 5 (0, 0))]) := by
  unfold wP;refine en Tryz.func182 rfl Tryz.ntmps182 hI (g [[1],[3,0]] ?_);refine WL.yd (Yd.sub rfl rfl (wr64 ⟨by (try dsimp only); omega, by (try dsimp only); omega⟩)) rfl (g [[5]] ?_);refine WC.loopT [] (fun y : Nat × List Value => [(0, .slice (some ⟨b, 0, none⟩) 2 c), (2, nt y.1), (3, it (1 - (y.1 : Int)))]) (fun y => [(b, .cells (y.2 ++ rest).toArray 5 (0, 0))]) (fun y => (y.1 = 0 ∧ y.2 = [bt u, bt v]) ∨ (y.1 = 1 ∧ y.2 = [bt v, bt u] ∧ 2 = 2)) (fun y => 1 - y.1) (0, [bt u, bt v]) (.inl ⟨rfl, rfl⟩) rfl ⟨rfl, rfl, rfl, trivial⟩ ?_;rintro ⟨k, cs⟩ hk;dsimp only at hk;refine g [[2],[6,0,2,3]] ?_;refine WC.cond rfl (fun c9 => ?_) (fun c9 => ?_)
  · try simp only [zq] at c9
    obtain ⟨rfl, rfl⟩ : k = 0 ∧ cs = [bt u, bt v] := by rcases hk with h | h; exact h; omega
    refine g [[4],[0,0,2,3]] ?_;refine WC.drawH [] zk (fun _ hI => Inv.nil hI) (g [[1000],[1001],[1002],[1003],[1004],[1005]] ?_);refine WH.yd (i := 6) zk zX rfl (Yd.indexS UnF.h SzF.h rfl rfl (by (try dsimp only); omega) (by (try dsimp only); omega) (rfl)) rfl (g [[1008],[1009]] ?_);refine WH.yd (i := 10) zk zX rfl (Yd.indexS UnF.h SzF.h rfl rfl (by (try dsimp only); omega) (by (try dsimp only); omega) (rfl)) rfl ?_;refine WH.two (i := 7) (j := 11) zk ?_ ?_
    · refine WHo.yd rfl (Yd.l1 rfl (Rd.own (k := 0) rfl rfl)) rfl ?_;refine WH.one (i := 11) zk (WHo.yd rfl (Yd.l1 rfl (Rd.own (k := 0) rfl rfl)) rfl ?_);refine WH.yd (i := 12) zk zX rfl (Yd.indexS UnF.h SzF.h rfl rfl (by (try dsimp only); omega) (by (try dsimp only); omega) (rfl)) rfl ?_;refine WH.one (i := 13) zk (WHo.so rfl (SO.store 0 rfl SzF.h rfl rfl rfl rfl (zqb rfl) (za rfl)) rfl ?_);rintro _ _ _ ⟨rfl, rfl, rfl⟩;refine ⟨(fun _ hI => Inv.nil hI), ?_⟩;refine WH.yd (i := 14) zk zX rfl (Yd.indexS UnF.h SzF.h rfl rfl (by (try dsimp only); omega) (by (try dsimp only); omega) (rfl)) rfl ?_;refine WH.one (i := 15) zk (WHo.so rfl (SO.store 0 rfl SzF.h rfl rfl rfl rfl (zqb rfl) (za rfl)) rfl ?_);rintro _ _ _ ⟨rfl, rfl, rfl⟩;refine ⟨(fun _ hI => Inv.nil hI), ?_⟩;refine WH.nil zk (g [[2],[2,0,2,3]] ?_);refine WL.yd (Yd.add rfl rfl (wr64 ⟨by (try dsimp only); omega, by (try dsimp only); omega⟩)) rfl (g [[1]] ?_);refine WL.yd (Yd.sub rfl rfl (wr64 ⟨by (try dsimp only); omega, by (try dsimp only); omega⟩)) rfl (g [[3]] ?_);exact WP.againT (1, [bt v, bt u]) (.inr ⟨rfl, rfl, rfl⟩) (by dsimp only; omega) [] _ rfl rfl ⟨rfl, rfl, rfl, trivial⟩
    refine WHo.yd rfl (Yd.l1 rfl (Rd.own (k := 0) rfl rfl)) rfl ?_;refine WH.one (i := 7) zk (WHo.yd rfl (Yd.l1 rfl (Rd.own (k := 0) rfl rfl)) rfl ?_);refine WH.yd (i := 12) zk zX rfl (Yd.indexS UnF.h SzF.h rfl rfl (by (try dsimp only); omega) (by (try dsimp only); omega) (rfl)) rfl ?_;refine WH.one (i := 13) zk (WHo.so rfl (SO.store 0 rfl SzF.h rfl rfl rfl rfl (zqb rfl) (za rfl)) rfl ?_);rintro _ _ _ ⟨rfl, rfl, rfl⟩;refine ⟨(fun _ hI => Inv.nil hI), ?_⟩;refine WH.yd (i := 14) zk zX rfl (Yd.indexS UnF.h SzF.h rfl rfl (by (try dsimp only); omega) (by (try dsimp only); omega) (rfl)) rfl ?_;refine WH.one (i := 15) zk (WHo.so rfl (SO.store 0 rfl SzF.h rfl rfl rfl rfl (zqb rfl) (za rfl)) rfl ?_);rintro _ _ _ ⟨rfl, rfl, rfl⟩;refine ⟨(fun _ hI => Inv.nil hI), ?_⟩;refine WH.nil zk (g [[2],[2,0,2,3]] ?_);refine WL.yd (Yd.add rfl rfl (wr64 ⟨by (try dsimp only); omega, by (try dsimp only); omega⟩)) rfl (g [[1]] ?_);refine WL.yd (Yd.sub rfl rfl (wr64 ⟨by (try dsimp only); omega, by (try dsimp only); omega⟩)) rfl (g [[3]] ?_);exact WP.againT (1, [bt v, bt u]) (.inr ⟨rfl, rfl, rfl⟩) (by dsimp only; omega) [] _ rfl rfl ⟨rfl, rfl, rfl, trivial⟩
  try simp only [zq] at c9
  obtain ⟨rfl, rfl, _⟩ : k = 1 ∧ cs = [bt v, bt u] ∧ 2 = 2 := by rcases hk with h | h; omega; exact h
  refine g [[4]] ?_;refine WP.ret0 rfl rfl rfl  (fun w hI => ⟨_, D, _, rfl, DExt.refl _ _, hI, (fun _ h => h), rfl, rfl⟩)
end Go.Proofs.YtaiegbjgfdhgaaaGreatDoor
namespace Go.Bk
open Go.W (butN gt putG)
def wrI (i : Int) : Int := IntKind.i64.wrap i
def orF (f : Nat → Bool) : Nat → Nat
  | 0 => 0
  | n + 1 => orF f n ||| (if f n then 2 ^ n else 0)
theorem znu (f : Nat → Bool) : ∀ n, orF f n < 2 ^ n
  | 0 => Nat.one_pos
  | n + 1 => Nat.or_lt_two_pow (Nat.lt_of_lt_of_le (znu f n) (Nat.pow_le_pow_right (by decide) (Nat.le_succ n))) (by
    split
    · exact Nat.pow_lt_pow_right (by decide) (Nat.lt_succ_self n)
    · exact Nat.two_pow_pos _)
def hasN (s n : Nat) : Bool := decide (s / 2 ^ n % 2 = 1)
def takI (sure : Bool) (m : Mv) : Int := if sure then m.long.hi else m.long.lo
def thrI (h : Hors) (sure : Bool) (b : Int) (i k : Nat) : Int := b + takI sure (gt h.moves i) + h.pace * max ((gt h.moves i).place - (gt h.moves k).place) ((gt h.moves k).place - (gt h.moves i).place)
def folB (h : Hors) (sure : Bool) (i k : Nat) : Bool := decide (thrI h sure (gt h.moves i).at_ i k ≤ (gt h.moves k).at_)
def chaN (h : Hors) (sure : Bool) (i : Nat) : Nat := if i < h.moves.length then orF (folB h sure i) h.moves.length else 0
theorem znV (h : Hors) (hn : h.moves.length ≤ 7) (sure : Bool) (i : Nat) : chaN h sure i < 128 := by
  unfold chaN;split
  · exact Nat.lt_of_lt_of_le (znu _ _) (Nat.pow_le_pow_right (n := 2) (by decide) hn)
  · decide
def apaB (c : Nat → Nat) (i k : Nat) : Bool := !hasN (c i) k && !hasN (c k) i
abbrev MSt := Nat × (Nat → Option Nat)
def matL (c : Nat → Nat) (some_ : Nat) (rec : Nat → MSt → Bool × MSt) (i : Nat) : List Nat → MSt → Bool × MSt
  | [], s => (false, s)
  | k :: ks, s => if hasN some_ k = false ∨ hasN (c i) k = false ∨ hasN s.1 k = true then matL c some_ rec i ks s else
    match s.2 k with
    | none => (true, (s.1 ||| 2 ^ k, putG s.2 k i))
    | some f => match rec f (s.1 ||| 2 ^ k, s.2) with
      | (true, s') => (true, (s'.1, putG s'.2 k i))
      | (false, s') => matL c some_ rec i ks s'
def matF (c : Nat → Nat) (some_ : Nat) : Nat → Nat → MSt → Bool × MSt
  | 0, i, s => matL c some_ (fun _ s => (false, s)) i (List.range 7) s
  | n + 1, i, s => matL c some_ (matF c some_ n) i (List.range 7) s
def allF (c : Nat → Nat) (some_ : Nat) : List Nat → (Nat → Option Nat) → Nat → Option Nat
  | [], F => F
  | i :: is, F => allF c some_ is (if hasN some_ i = false then F else (matF c some_ 7 i (0, F)).2.2)
def cntF (F : Nat → Option Nat) : Nat := ((List.range 7).filter fun k => (F k).isSome).length
def horI (pc : Nat → Int) (c : Nat → Nat) (some_ : Nat)  : Int := wrI (pc some_ - (cntF (allF c some_ (List.range 7) fun _ => none) : Int))
def tryL (rec : List Int → Bool × List Int) (c : Nat → Nat) (i : Nat) : List Nat → List Int → Bool × List Int
  | [], l => (false, l)
  | x :: xs, l => if ((List.range i).any fun k => decide (gt l k = (x : Int)) && apaB c i k) = true then tryL rec c i xs l else
    match rec (l.set i (x : Int)) with
    | (true, l') => (true, l')
    | (false, l') => tryL rec c i xs l'
def zr5 (c : Nat → Nat) (n : Nat) : Nat → Nat → List Int → Bool × List Int
  | 0, _, l => (true, l)
  | r + 1, i, l => tryL (zr5 c n r (i + 1)) c i (List.range n) l
def fewI (pc : Nat → Int) (h : Hors) (sure : Bool) : Int := horI pc (chaN h sure) (2 ^ h.moves.length - 1)
def fewL (pc : Nat → Int) (h : Hors) (sure : Bool) : List Int := (zr5 (chaN h sure) (fewI pc h sure).toNat h.moves.length 0 (List.replicate 7 0)).2.take h.moves.length
def KT (pc : Nat → Int) (h : Hors) (sure : Bool) : Int × List Int × Int := if qn h = true then (fewI pc h sure, fewL pc h sure, 0) else (0, [], 1)
def setL (pc : Nat → Int) (n : Nat) (up : Bool) : List Nat := (List.range (n + 1)).flatMap fun (i : Nat) => (List.range (2 ^ n)).filter fun s => decide (pc s = if up then (i : Int) else (n : Int) - (i : Int))
def prfB (h : Hors) (sure : Bool) (s : Nat) : Bool := (List.range h.moves.length).all fun i => !(hasN s i && !decide (butN s (2 ^ i) &&& chaN h sure i = 0))
def prfN (pc : Nat → Int) (h : Hors) (sure : Bool) : Nat := ((setL pc h.moves.length false).find? (prfB h sure)).getD 0
def znv (pc : Nat → Int) (h : Hors) (sure : Bool) : Int × Int := if qn h = true then ((prfN pc h sure : Int), 0) else (0, 1)
def leaN (pc : Nat → Int) (h : Hors) (many : Int) (sure : Bool) : Nat := ((setL pc h.moves.length true).find? fun s => decide (horI pc (chaN h sure) (butN (2 ^ h.moves.length - 1) s) ≤ many)).getD 0
def zmQ (pc : Nat → Int) (h : Hors) (many : Int) (sure : Bool) : Int × Int := if qn h = false then (0, 1) else if inB many 0 7 = false then (0, 2) else ((leaN pc h many sure : Nat), 0)
def zn9 (h : Hors) (n : Int) : Bool := inB n 0 ((h.moves.length : Int) - 1)
def zmA (h : Hors) (one two : Int) : Int × Int := if qn h = false then (0, 1) else if (zn9 h one && zn9 h two) = false then (0, 2) else
  (if hasN (chaN h true one.toNat) two.toNat then 2 else if hasN (chaN h false one.toNat) two.toNat then 1 else 0, 0)
end Go.Bk
namespace Go.Bk
open Go.W (butN gt)
def rng (a b : Int) : List Int := (List.range (b - a + 1).toNat).map fun (i : Nat) => a + (i : Int)
theorem wH (a b : Int) : (rng a b).length = (b - a + 1).toNat := by simp [rng]
theorem Xo {a b : Int} {i : Nat} (h : i < (b - a + 1).toNat) : gt (rng a b) i = a + (i : Int) := by
  simp [gt, rng, List.getD, h]
structure Now where
  hut : Hut
  water : Int
  wave : Int
  place : Nat
deriving DecidableEq
def depI (s : Surf) (water row : Int) : Int := max 0 (water - s.step * row)
def floB (s : Surf) (n : Now) : Bool := if n.place % 2 = 1 then false else
  let d := depI s n.water ((Lib.ctz 64 n.place : Int) - 1)
  decide (0 < d) && decide (n.hut.floor < d + n.wave)
def houL (s : Surf) (h : Nat) : List (Int × Int) := (rng (gt s.water h).lo (gt s.water h).hi).flatMap fun a => (rng (gt s.waves h).lo (gt s.waves h).hi).map fun b => (a, b)
def plcL (from_ : Nat) : Nat → Nat → List Nat
  | 0, _ => []
  | n + 1, j => if 2 ^ j ≤ from_ then (if 2 ^ j &&& from_ = 0 then plcL from_ n (j + 1) else 2 ^ j :: plcL from_ n (j + 1)) else []
def nowL (s : Surf) (x : Hut) (h : Nat) (ps : List Nat) : List Now := ps.flatMap fun p => (houL s h).map fun o => ⟨x, o.1, o.2, p⟩
def looL (s : Surf) (x : Hut) (from_ h : Nat) : List Now := nowL s x h (plcL from_ 8 0)
def goN (s : Surf) (l : List Now) : Nat := l.foldl (fun t n => t ||| (if floB s n = true ∧ n.hut.brake < n.wave then n.place / 2 else n.place)) 0
def talB (s : Surf) (l : List Now) : Bool × Bool := l.foldl (fun t n => (t.1 || floB s n, t.2 || !floB s n)) (false, false)
def folN (s : Surf) (x : Hut) : Nat → Nat
  | 0 => 2 * 2 ^ x.row.toNat
  | h + 1 => goN s (looL s x (folN s x h) h)
def tlyB (s : Surf) (x : Hut) (h : Nat) : Bool × Bool := talB s (looL s x (folN s x h) h)
def firI (s : Surf) (x : Hut) : Int := match (List.range s.water.length).find? fun h => (tlyB s x h).1 with
  | some h => (h : Int)
  | none => -1
abbrev SSt := List Int × List Int
def hrsT (rec : SSt → Bool × SSt) (many : Int) (hut : Nat) : List Nat → SSt → Bool × SSt
  | [], s => (false, s)
  | h :: hs, s => if gt s.2 h = many then hrsT rec many hut hs s else
    match rec (s.1.set hut (h : Int), s.2.set h (wrI (gt s.2 h + 1))) with
    | (true, s') => (true, s')
    | (false, s') => hrsT rec many hut hs (s'.1, s'.2.set h (wrI (gt s'.2 h - 1)))
def savF (first : Nat → Int) (can : Nat) (many : Int) (left : Nat) : Nat → Nat → SSt → Bool × SSt
  | 0, _, s => (true, s)
  | r + 1, hut, s => if hasN (butN can left) hut = false then savF first can many left r (hut + 1) (s.1.set hut (-1), s.2) else
    hrsT (savF first can many left r (hut + 1)) many hut (List.range (first hut).toNat) (s.1.set hut (-1), s.2)
def savS (pc : Nat → Int) (first : Nat → Int) (can : Nat) (many : Int) (n : Nat) : List (Nat × Nat) → SSt → List Int × Nat
  | [], _ => ([], 0)
  | x :: r, s => if pc x.2 = (x.1 : Int) ∧ butN x.2 can = 0 then
      match savF first can many x.2 n 0 s with
      | (true, s') => (s'.1, x.2)
      | (false, s') => savS pc first can many n r s'
    else savS pc first can many n r s
def prsL (n : Nat) : List (Nat × Nat) := (List.range (n + 1)).flatMap fun i => (List.range (2 ^ n)).map fun s => (i, s)
def fstI (s : Surf) (i : Nat) : Int := if i < s.huts.length then firI s (gt s.huts i) else 0
def canN (s : Surf) : Nat := orF (fun i => decide (0 ≤ fstI s i)) s.huts.length
def savP (pc : Nat → Int) (s : Surf) (many : Int) : List Int × Nat := savS pc (fstI s) (canN s) many s.huts.length (prsL s.huts.length) (List.replicate s.huts.length 0, List.replicate 8 0)
def zoE (pc : Nat → Int) (s : Surf) (many : Int) : List Int × Int × Int := if zsB s = false then ([], 0, 1) else if inB many 0 5 = false then ([], 0, 2) else ((savP pc s many).1, ((savP pc s many).2 : Int), 0)
end Go.Bk
namespace Go.Bk
open Go.W (butN gt)
def kndI (f : Flag) (n : Int) : Nat := if f.high ≤ n then 4 else if n < f.low then 1 else 2
def knsN (f : Flag) (h : zqS) : Nat := ((if h.thunder = 2 then [] else rng h.wind.lo h.wind.hi).foldl (fun k n => k ||| kndI f n) 0) ||| (if h.thunder = 0 then 0 else 4)
structure Pole where
  up : Bool
  calm : Int
deriving DecidableEq, Inhabited
structure Stp where
  to : Pole
  up : Bool
  kind : Nat
deriving Inhabited
def polF (p : Pole) (kind : Nat) (quiet : Int) : Pole × Bool :=
  if kind = 2 then (⟨true, 0⟩, true) else if p.up = false ∨ kind = 1 then (⟨p.up, 0⟩, p.up) else if wrI (p.calm + 1) = quiet then (⟨false, 0⟩, true) else (⟨p.up, wrI (p.calm + 1)⟩, true)
def upB (f : Flag) (h : Nat) : Bool := f.seen.all fun s => s.up || !decide (s.hour = (h : Int))
def dnB (f : Flag) (h : Nat) : Bool := f.seen.all fun s => !s.up || !decide (s.hour = (h : Int))
def stpO (f : Flag) (p : Pole) (h kind : Nat) : Option Stp :=
  if hasN (knsN f (gt f.hours h)) kind = false then none else
  if ((polF p kind f.quiet).2 && !upB f h || !(polF p kind f.quiet).2 && !dnB f h) = true then none else some ⟨(polF p kind f.quiet).1, (polF p kind f.quiet).2, kind⟩
def stpL (f : Flag) (p : Pole) (h : Nat) : List Stp := (List.range 3).filterMap (stpO f p h)
def tolF {T : Type} (f : Flag) (end_ : T) (stepf : Stp → Nat → T → T) (join : T → T → T) : Nat → Pole → Nat → Option T
  | 0, _, _ => some end_
  | r + 1, p, h => (stpL f p h).foldl (fun k x => match tolF f end_ stepf join r x.to (h + 1) with
    | none => k
    | some y => match k with
      | none => some (stepf x h y)
      | some z => some (join z (stepf x h y))) none
def flwI (from_ to : Nat) (s : Stp) (h : Nat) : Int := if s.up = true ∧ from_ ≤ h ∧ h < to then 1 else 0
def spaO (f : Flag) (from_ to : Nat) : Option Sp := tolF f ⟨0, 0⟩ (fun x h r => ⟨wrI (r.lo + flwI from_ to x h), wrI (r.hi + flwI from_ to x h)⟩) (fun a b => ⟨min a.lo b.lo, max a.hi b.hi⟩) f.hours.length ⟨false, 0⟩ 0
def zsP (f : Flag) : Int := (tolF f (1 : Int) (fun _ _ r => wrI (r * 1)) (fun a b => wrI (a + b)) f.hours.length ⟨false, 0⟩ 0).getD 0
def sprN (f : Flag) (h : Nat) : Sp := (spaO f h (h + 1)).getD ⟨0, 0⟩
def orI (g : Nat → Int) : Nat → Int
  | 0 => 0
  | n + 1 => IntKind.i64.wrap ((BitVec.ofInt 64 (orI g n) ||| BitVec.ofInt 64 (IntKind.i64.wrap (g n * 2 ^ (min n 64)))).toNat)
def zpM (f : Flag) : Int × Int × Int := if ztg f = false then (0, 0, 1) else if zsP f ≤ 0 then (0, 0, 10) else
  (orI (fun h => (sprN f h).lo) f.hours.length, orI (fun h => (sprN f h).hi) f.hours.length, 0)
end Go.Bk
namespace Go.Bk
open Go.W (butN gt)
structure Wat where
  all : Nat
  left : Nat
  right : Nat
def watN (b : xb) : Nat := (b.wide * b.deep).toNat
def allN (b : xb) : Nat := orF (fun _ => true) (watN b)
def lefN (b : xb) : Nat := orF (fun p => decide ((p : Int) % b.wide = 0)) (watN b)
def rigN (b : xb) : Nat := orF (fun p => decide ((p : Int) % b.wide = b.wide - 1)) (watN b)
def uniN (l : List Nat) : Nat := l.foldl (fun a b => a ||| b) 0
def steN (b : xb) (p : Nat) : Nat := allN b &&& uniN [p, butN p (lefN b) / 2, butN p (rigN b) * 2, p / 2 ^ b.wide.toNat, p * 2 ^ b.wide.toNat]
def rowN (b : xb) (n : Nat) : Nat := allN b / 2 ^ (n * b.wide.toNat) * 2 ^ (n * b.wide.toNat)
structure Qst where
  boat : Nat
  without : Nat
  row : Nat
  speed : Nat
deriving DecidableEq
inductive Hld where
  | row (n : Nat)
  | sight (s : zms)
def sgtN (b : xb) (s : zms) (m : Nat) : Nat := if (m : Int) ≠ s.minute then allN b else
  ((rng s.rows.lo s.rows.hi).flatMap fun r => (rng s.cols.lo s.cols.hi).map fun c => 2 ^ (r * b.wide + c).toNat).foldl (fun a x => a ||| x) 0
def hatN (b : xb) : Hld → Nat → Nat
  | .row n, _ => rowN b n
  | .sight s, m => sgtN b s m
def znW {α : Type} (set : Nat) (l : List α) : Nat → List α
  | 0 => []
  | k + 1 => znW set l k ++ (match l[k]? with | some x => if hasN set k then [] else [x] | none => [])
def hldL (b : xb) (q : Qst) : List Hld := .row q.row :: (znW q.without (gt b.seen q.boat) (gt b.seen q.boat).length).map .sight
def zpV {α : Type} (f : α → α) : Nat → α → α
  | 0, x => x
  | n + 1, x => zpV f n (f x)
def mntF (b : xb) (hs : List Hld) (speed : Nat) (s : List Nat × Nat) (m : Nat) : List Nat × Nat :=
  let c := hs.foldl (fun c h => c &&& hatN b h m) s.2
  let o := gt s.1 m &&& c
  (s.1.set m o, zpV (steN b) speed o)
def mntL (b : xb) (back : Bool) : List Nat := (List.range (b.last + 1).toNat).map fun m => if back then b.last.toNat - m else m
def pasF (b : xb) (q : Qst) (back : Bool) (out : List Nat) : List Nat := ((mntL b back).foldl (mntF b (hldL b q) q.speed) (out, allN b)).1
def flwL (b : xb) (q : Qst) : List Nat := pasF b q true (pasF b q false (List.replicate 13 (allN b)))
def canB (b : xb) (q : Qst) : Bool := decide (gt (flwL b q) 0 ≠ 0)
def plnQ (b : xb) (boat : Nat) : Qst := ⟨boat, 0, 0, b.speed.toNat⟩
def zqt (b : xb) (n : Int) : Bool := inB n 0 ((b.seen.length : Int) - 1)
def uptL (n : Nat) : List Nat := List.range (n + 1)
def neaI (b : xb) (boat : Nat) : Sp :=
  ⟨(Lib.ctz 64 (uniN ((flwL b (plnQ b boat)).take (b.last.toNat + 1))) : Int) / b.wide, (((uptL b.deep.toNat).find? fun row => !canB b { plnQ b boat with row := row + 1 }).getD 0 : Nat)⟩
def znH (b : xb) (boat : Int) : Sp × Int := if zmP b = false then (⟨0, 0⟩, 1) else if zqt b boat = false then (⟨0, 0⟩, 2) else
  if canB b (plnQ b boat.toNat) = false then (⟨0, 0⟩, 10) else (neaI b boat.toNat, 0)
end Go.Bk
namespace Go.Bk
def znt : xb := ⟨6, 4, 1, 6, [[⟨0, ⟨0, 0⟩, ⟨3, 3⟩⟩, ⟨4, ⟨2, 2⟩, ⟨2, 3⟩⟩], [⟨2, ⟨3, 4⟩, ⟨1, 1⟩⟩, ⟨5, ⟨5, 5⟩, ⟨0, 3⟩⟩]]⟩
def zpR : Flag := ⟨4, 8, 2, [⟨⟨2, 3⟩, 0⟩, ⟨⟨7, 8⟩, 0⟩, ⟨⟨3, 3⟩, 1⟩, ⟨⟨2, 4⟩, 0⟩, ⟨⟨1, 1⟩, 0⟩, ⟨⟨5, 5⟩, 0⟩], [⟨3, true⟩]⟩
def znj : Surf := ⟨3, 2, [⟨3, 4⟩, ⟨5, 5⟩, ⟨6, 7⟩, ⟨4, 4⟩], [⟨1, 1⟩, ⟨1, 2⟩, ⟨2, 3⟩, ⟨0, 1⟩], [⟨6, 2, 0⟩, ⟨4, 1, 1⟩, ⟨9, 0, 2⟩]⟩
def zoU : Hors := ⟨1, [⟨0, 0, ⟨4, 6⟩⟩, ⟨8, 3, ⟨4, 4⟩⟩, ⟨10, 0, ⟨5, 6⟩⟩, ⟨16, 6, ⟨3, 3⟩⟩]⟩
theorem zqU : znH znt 1 = (⟨0, 1⟩, 0) := by decide +kernel
theorem zti : zpM zpR = (12, 62, 0) := by decide +kernel
end Go.Bk
namespace Go.Proofs.YtaiegbjgfdhgaaaGreatDoor
open Go.W Go.Bk
def zsz (e : Int) : List PanicEntry := [{ v := .iface 211 (it e), recovered := false }]
theorem zoZ (e : Int) (w : World) : z8 Tryz.prog 119 [.bool true, it e] w (.tuple #[]) := by
  unfold z8;refine en Tryz.func119 rfl Tryz.ntmps119 zI (g [[1],[7,0,1]] ?_);refine WP.ret0 rfl rfl rfl  (fun w hI => ⟨rfl, hI.keep⟩)
theorem zmR (e : Int) (w : World) : xC Tryz.prog 119 [.bool false, it e] w (zsz e) := by
  unfold xC;refine en Tryz.func119 rfl Tryz.ntmps119 zI (g [[1],[6,0,1],[3,1]] ?_);refine WL.no (SO.panic rfl ?_);refine WP.panicBody rfl (fun w hI => ⟨rfl, hI.keep⟩)
theorem zmx (b : Nat) (w : World) : Idle Tryz.prog 43 [pt b] w := by
  refine callsD_of_wpS Tryz.func43 rfl fun c₀ cs hu => wpS_seq ?_;apply wpS_region;simp [wpOpsS, go_sem, recoverD, hu, Tryz.ntmps43]
  show Code.wpS _ _ _ _ _ _;refine wpS_of_wp (WC.start (x := ⟨19, [], [], w⟩) (fr := [(0, pt b), (2, .nilIface)]) (D := fun _ => none) (hp := []) ?_ ?_)
  · exact ⟨⟨by simp, rfl, zmH ⟨by simp, by simp, trivial⟩⟩, (Inv.start (by intro _ _ h; cases h))⟩
  refine g [[1],[2,0,2]] ?_;refine WL.yd (Yd.neqNilNil UnF.h rfl) rfl (g [[4]] ?_);exact WP.mk fun a w' hA => ⟨hA.f.defers, .returning, by cases c₀; simp only at hu; subst hu; rfl, .tuple #[], by simp [results, Tryz.results43], ⟨_, rfl⟩, rfl, hA.i.keep⟩
theorem zmt (b : Nat) (e v0 : Int) (t : TypeId) (w : World) (hb : w.heap[b]? = some (.cells (List.toArray [it v0]) t (0, 0))) : uw Tryz.prog 43 [pt b] (.iface 211 (it e)) b (.cells (List.toArray [it e]) t (0, 0)) w := by
  refine callsD_of_wpS Tryz.func43 rfl fun c₀ cs hu => wpS_seq ?_;apply wpS_region;simp [wpOpsS, go_sem, recoverD, hu, Tryz.ntmps43]
  show Code.wpS _ _ _ _ _ _;refine wpS_of_wp (WC.start (x := ⟨19, [], [b], w⟩) (fr := [(0, pt b), (2, .iface 211 (it e))]) (D := fun _ => none) (hp := [(b, .cells (List.toArray [it v0]) t (0, 0))]) ?_ ?_)
  · exact ⟨⟨by simp, rfl, zmH ⟨by simp, by simp, trivial⟩⟩, (Inv.one hb)⟩
  refine g [[1],[2,0,2]] ?_;refine WL.yd (Yd.neqNil UnF.h rfl) rfl (g [[4],[2,0,2]] ?_);refine WL.yd (Yd.assert UnF.h (by intro _ h; cases h) rfl) rfl (g [[9],[8,4,3,0,2],[6,3,0]] ?_);exact WP.mk fun a w' hA => ⟨hA.f.defers, .panicking [{ v := .iface 211 (it e), recovered := true }], rfl, .tuple #[], by simp [results, Tryz.results43], ⟨_, rfl⟩, rfl, hA.i.keep, hA.i.own _ _ (List.mem_of_getElem? (i := 0) rfl)⟩
theorem znl (n lo hi : Int) (w : World) : z8 Tryz.prog 66 [it n, it lo, it hi] w (.bool (inB n lo hi)) := by
  unfold z8;refine en Tryz.func66 rfl Tryz.ntmps66 zI (g [[1],[5,0,1,2],[5,6,0,1,2]] ?_);refine WL.part 10 rfl (fun g10 => ?_) (fun g10 => ?_)
  · try simp only [zq] at g10
    refine g [[8]] ?_;refine WP.ret1 rfl rfl rfl (RV.tmp rfl) (fun w hI => ⟨zb (by rw [Bool.eq_iff_iff]; simp [inB]; omega), hI.keep⟩)
  try simp only [zq] at g10
  refine g [[8]] ?_;refine WP.ret1 rfl rfl rfl (RV.tmp rfl) (fun w hI => ⟨zb (by rw [Bool.eq_iff_iff]; simp [inB]; omega), hI.keep⟩)
def zDu (e : Int) : List PanicEntry := [{ v := .iface 259 (it e), recovered := false }]
theorem zo7 (e : Int) (w : World) : z8 Tryz.prog 160 [.bool true, it e] w (.tuple #[]) := by
  unfold z8;refine en Tryz.func160 rfl Tryz.ntmps160 zI (g [[1],[7,0,1]] ?_);refine WP.ret0 rfl rfl rfl  (fun w hI => ⟨rfl, hI.keep⟩)
theorem zmG (e : Int) (w : World) : xC Tryz.prog 160 [.bool false, it e] w (zDu e) := by
  unfold xC;refine en Tryz.func160 rfl Tryz.ntmps160 zI (g [[1],[6,0,1],[3,1]] ?_);refine WL.no (SO.panic rfl ?_);refine WP.panicBody rfl (fun w hI => ⟨rfl, hI.keep⟩)
theorem zo1 (b : Nat) (w : World) : Idle Tryz.prog 85 [pt b] w := by
  refine callsD_of_wpS Tryz.func85 rfl fun c₀ cs hu => wpS_seq ?_;apply wpS_region;simp [wpOpsS, go_sem, recoverD, hu, Tryz.ntmps85]
  show Code.wpS _ _ _ _ _ _;refine wpS_of_wp (WC.start (x := ⟨19, [], [], w⟩) (fr := [(0, pt b), (2, .nilIface)]) (D := fun _ => none) (hp := []) ?_ ?_)
  · exact ⟨⟨by simp, rfl, zmH ⟨by simp, by simp, trivial⟩⟩, (Inv.start (by intro _ _ h; cases h))⟩
  refine g [[1],[2,0,2]] ?_;refine WL.yd (Yd.neqNilNil UnF.h rfl) rfl (g [[4]] ?_);exact WP.mk fun a w' hA => ⟨hA.f.defers, .returning, by cases c₀; simp only at hu; subst hu; rfl, .tuple #[], by simp [results, Tryz.results85], ⟨_, rfl⟩, rfl, hA.i.keep⟩
theorem zn2 (n lo hi : Int) (w : World) : z8 Tryz.prog 87 [it n, it lo, it hi] w (.bool (inB n lo hi)) := by
  unfold z8;refine en Tryz.func87 rfl Tryz.ntmps87 zI (g [[1],[5,0,1,2],[5,6,0,1,2]] ?_);refine WL.part 10 rfl (fun g10 => ?_) (fun g10 => ?_)
  · try simp only [zq] at g10
    refine g [[8]] ?_;refine WP.ret1 rfl rfl rfl (RV.tmp rfl) (fun w hI => ⟨zb (by rw [Bool.eq_iff_iff]; simp [inB]; omega), hI.keep⟩)
  try simp only [zq] at g10
  refine g [[8]] ?_;refine WP.ret1 rfl rfl rfl (RV.tmp rfl) (fun w hI => ⟨zb (by rw [Bool.eq_iff_iff]; simp [inB]; omega), hI.keep⟩)
def zDt (e : Int) : List PanicEntry := [{ v := .iface 269 (it e), recovered := false }]
theorem znn (e : Int) (w : World) : z8 Tryz.prog 93 [.bool true, it e] w (.tuple #[]) := by
  unfold z8;refine en Tryz.func93 rfl Tryz.ntmps93 zI (g [[1],[7,0,1]] ?_);refine WP.ret0 rfl rfl rfl  (fun w hI => ⟨rfl, hI.keep⟩)
theorem zmu (e : Int) (w : World) : xC Tryz.prog 93 [.bool false, it e] w (zDt e) := by
  unfold xC;refine en Tryz.func93 rfl Tryz.ntmps93 zI (g [[1],[6,0,1],[3,1]] ?_);refine WL.no (SO.panic rfl ?_);refine WP.panicBody rfl (fun w hI => ⟨rfl, hI.keep⟩)
theorem zpe (b : Nat) (w : World) : Idle Tryz.prog 91 [pt b] w := by
  refine callsD_of_wpS Tryz.func91 rfl fun c₀ cs hu => wpS_seq ?_;apply wpS_region;simp [wpOpsS, go_sem, recoverD, hu, Tryz.ntmps91]
  show Code.wpS _ _ _ _ _ _;refine wpS_of_wp (WC.start (x := ⟨19, [], [], w⟩) (fr := [(0, pt b), (2, .nilIface)]) (D := fun _ => none) (hp := []) ?_ ?_)
  · exact ⟨⟨by simp, rfl, zmH ⟨by simp, by simp, trivial⟩⟩, (Inv.start (by intro _ _ h; cases h))⟩
  refine g [[1],[2,0,2]] ?_;refine WL.yd (Yd.neqNilNil UnF.h rfl) rfl (g [[4]] ?_);exact WP.mk fun a w' hA => ⟨hA.f.defers, .returning, by cases c₀; simp only at hu; subst hu; rfl, .tuple #[], by simp [results, Tryz.results91], ⟨_, rfl⟩, rfl, hA.i.keep⟩
theorem zoH (b : Nat) (e v0 : Int) (t : TypeId) (w : World) (hb : w.heap[b]? = some (.cells (List.toArray [it v0]) t (0, 0))) : uw Tryz.prog 91 [pt b] (.iface 269 (it e)) b (.cells (List.toArray [it e]) t (0, 0)) w := by
  refine callsD_of_wpS Tryz.func91 rfl fun c₀ cs hu => wpS_seq ?_;apply wpS_region;simp [wpOpsS, go_sem, recoverD, hu, Tryz.ntmps91]
  show Code.wpS _ _ _ _ _ _;refine wpS_of_wp (WC.start (x := ⟨19, [], [b], w⟩) (fr := [(0, pt b), (2, .iface 269 (it e))]) (D := fun _ => none) (hp := [(b, .cells (List.toArray [it v0]) t (0, 0))]) ?_ ?_)
  · exact ⟨⟨by simp, rfl, zmH ⟨by simp, by simp, trivial⟩⟩, (Inv.one hb)⟩
  refine g [[1],[2,0,2]] ?_;refine WL.yd (Yd.neqNil UnF.h rfl) rfl (g [[4],[2,0,2]] ?_);refine WL.yd (Yd.assert UnF.h (by intro _ h; cases h) rfl) rfl (g [[9],[8,4,3,0,2],[6,3,0]] ?_);exact WP.mk fun a w' hA => ⟨hA.f.defers, .panicking [{ v := .iface 269 (it e), recovered := true }], rfl, .tuple #[], by simp [results, Tryz.results91], ⟨_, rfl⟩, rfl, hA.i.keep, hA.i.own _ _ (List.mem_of_getElem? (i := 0) rfl)⟩
theorem zop (n lo hi : Int) (w : World) : z8 Tryz.prog 166 [it n, it lo, it hi] w (.bool (inB n lo hi)) := by
  unfold z8;refine en Tryz.func166 rfl Tryz.ntmps166 zI (g [[1],[5,0,1,2],[5,6,0,1,2]] ?_);refine WL.part 10 rfl (fun g10 => ?_) (fun g10 => ?_)
  · try simp only [zq] at g10
    refine g [[8]] ?_;refine WP.ret1 rfl rfl rfl (RV.tmp rfl) (fun w hI => ⟨zb (by rw [Bool.eq_iff_iff]; simp [inB]; omega), hI.keep⟩)
  try simp only [zq] at g10
  refine g [[8]] ?_;refine WP.ret1 rfl rfl rfl (RV.tmp rfl) (fun w hI => ⟨zb (by rw [Bool.eq_iff_iff]; simp [inB]; omega), hI.keep⟩)
def zwk (e : Int) : List PanicEntry := [{ v := .iface 292 (it e), recovered := false }]
theorem znG (e : Int) (w : World) : z8 Tryz.prog 112 [.bool true, it e] w (.tuple #[]) := by
  unfold z8;refine en Tryz.func112 rfl Tryz.ntmps112 zI (g [[1],[7,0,1]] ?_);refine WP.ret0 rfl rfl rfl  (fun w hI => ⟨rfl, hI.keep⟩)
theorem ztL (e : Int) (w : World) : xC Tryz.prog 112 [.bool false, it e] w (zwk e) := by
  unfold xC;refine en Tryz.func112 rfl Tryz.ntmps112 zI (g [[1],[6,0,1],[3,1]] ?_);refine WL.no (SO.panic rfl ?_);refine WP.panicBody rfl (fun w hI => ⟨rfl, hI.keep⟩)
theorem zpf (b : Nat) (w : World) : Idle Tryz.prog 102 [pt b] w := by
  refine callsD_of_wpS Tryz.func102 rfl fun c₀ cs hu => wpS_seq ?_;apply wpS_region;simp [wpOpsS, go_sem, recoverD, hu, Tryz.ntmps102]
  show Code.wpS _ _ _ _ _ _;refine wpS_of_wp (WC.start (x := ⟨19, [], [], w⟩) (fr := [(0, pt b), (2, .nilIface)]) (D := fun _ => none) (hp := []) ?_ ?_)
  · exact ⟨⟨by simp, rfl, zmH ⟨by simp, by simp, trivial⟩⟩, (Inv.start (by intro _ _ h; cases h))⟩
  refine g [[1],[2,0,2]] ?_;refine WL.yd (Yd.neqNilNil UnF.h rfl) rfl (g [[4]] ?_);exact WP.mk fun a w' hA => ⟨hA.f.defers, .returning, by cases c₀; simp only at hu; subst hu; rfl, .tuple #[], by simp [results, Tryz.results102], ⟨_, rfl⟩, rfl, hA.i.keep⟩
theorem zoI (b : Nat) (e v0 : Int) (t : TypeId) (w : World) (hb : w.heap[b]? = some (.cells (List.toArray [it v0]) t (0, 0))) : uw Tryz.prog 102 [pt b] (.iface 292 (it e)) b (.cells (List.toArray [it e]) t (0, 0)) w := by
  refine callsD_of_wpS Tryz.func102 rfl fun c₀ cs hu => wpS_seq ?_;apply wpS_region;simp [wpOpsS, go_sem, recoverD, hu, Tryz.ntmps102]
  show Code.wpS _ _ _ _ _ _;refine wpS_of_wp (WC.start (x := ⟨19, [], [b], w⟩) (fr := [(0, pt b), (2, .iface 292 (it e))]) (D := fun _ => none) (hp := [(b, .cells (List.toArray [it v0]) t (0, 0))]) ?_ ?_)
  · exact ⟨⟨by simp, rfl, zmH ⟨by simp, by simp, trivial⟩⟩, (Inv.one hb)⟩
  refine g [[1],[2,0,2]] ?_;refine WL.yd (Yd.neqNil UnF.h rfl) rfl (g [[4],[2,0,2]] ?_);refine WL.yd (Yd.assert UnF.h (by intro _ h; cases h) rfl) rfl (g [[9],[8,4,3,0,2],[6,3,0]] ?_);exact WP.mk fun a w' hA => ⟨hA.f.defers, .panicking [{ v := .iface 292 (it e), recovered := true }], rfl, .tuple #[], by simp [results, Tryz.results102], ⟨_, rfl⟩, rfl, hA.i.keep, hA.i.own _ _ (List.mem_of_getElem? (i := 0) rfl)⟩
theorem zn3 (n lo hi : Int) (w : World) : z8 Tryz.prog 173 [it n, it lo, it hi] w (.bool (inB n lo hi)) := by
  unfold z8;refine en Tryz.func173 rfl Tryz.ntmps173 zI (g [[1],[5,0,1,2],[5,6,0,1,2]] ?_);refine WL.part 10 rfl (fun g10 => ?_) (fun g10 => ?_)
  · try simp only [zq] at g10
    refine g [[8]] ?_;refine WP.ret1 rfl rfl rfl (RV.tmp rfl) (fun w hI => ⟨zb (by rw [Bool.eq_iff_iff]; simp [inB]; omega), hI.keep⟩)
  try simp only [zq] at g10
  refine g [[8]] ?_;refine WP.ret1 rfl rfl rfl (RV.tmp rfl) (fun w hI => ⟨zb (by rw [Bool.eq_iff_iff]; simp [inB]; omega), hI.keep⟩)
theorem btN {n : Nat} (h : n < 256) : bt (UInt8.ofNat n) = .int .u8 (n : Int) := by
  show Value.int .u8 _ = _;rw [UInt8.toNat_ofNat_of_lt' h]
theorem zn4 (n : Nat) : 1 ≤ (digL n).length ∧ (digL n).length ≤ 2 := by unfold digL; split <;> simp
theorem zoO (n : Nat) (hn : n ≤ 200) (D : Imm) (w : World) (hH : Holds D w) (w0 : World) (h0 : w0.heap.size ≤ w.heap.size) : News Tryz.prog 118 [nt n] w D (fun v D' h' => D = D' ∧ ∃ o : Ow, v = owV (some o) (digL n).length ∧ h' = owH (some o) 5 ((digL n).flatMap btC) [] ∧ owP w0 (some o) (digL n).length 1) := by
  unfold News;refine en Tryz.func118 rfl Tryz.ntmps118 (Inv.start hH) (g [[1],[5,0],[2,2,0]] ?_);refine WL.yd (Yd.rem rfl rfl (by (try dsimp only); omega) (by (try dsimp only); omega)) rfl ?_;refine WL.yd (Yd.add rfl rfl (wr64 ⟨by (try dsimp only); omega, by (try dsimp only); omega⟩)) rfl ?_;refine WL.yd (Yd.conv UnF.h UnF.h rfl (wr8 ⟨by (try dsimp only); omega, by (try dsimp only); omega⟩)) rfl ?_;refine WL.know 7 (bt (UInt8.ofNat (n % 125 + 125))) rfl (by rw [btN (by omega)]; simp) ?_;refine WL.so (SO.buildSlice1 UnF.h SzF.h ZvF.h rfl rfl rfl (vs := [_]) rfl rfl rfl) rfl ?_;rintro _ _ _ ⟨b8, hb8, rfl, rfl, rfl⟩;refine g [[5],[2,3,2,0]] ?_;refine WL.yd (Yd.quo rfl rfl (by (try dsimp only); omega) (by (try dsimp only); omega) (wr64 ⟨by (try dsimp only); omega, by (try dsimp only); omega⟩)) rfl (g [[4]] ?_);refine WC.loopT [] (fun y : Nat × Bs × Ow => [(0, nt y.1), (3, owV (some y.2.2) y.2.1.length)]) (fun y => owH (some y.2.2) 5 (y.2.1.flatMap btC) []) (fun y => ((y.1 = n / 125 ∧ y.2.1 = [UInt8.ofNat (n % 125 + 125)]) ∨ (y.1 = 0 ∧ 125 ≤ n ∧ y.2.1 = [UInt8.ofNat (n % 125 + 125), UInt8.ofNat (n / 125)])) ∧ owP w (some y.2.2) y.2.1.length 1) (fun y => y.1) (n / 125, [UInt8.ofNat (n % 125 + 125)], ⟨b8, 1, []⟩) ⟨.inl ⟨rfl, rfl⟩, hb8, Nat.le_refl _, rfl⟩ rfl ⟨rfl, rfl, trivial⟩ ?_;rintro ⟨m, l, o⟩ ⟨hm, ho⟩;dsimp only at hm ho;refine g [[2],[5,0,3]] ?_;refine WC.cond rfl (fun c12 => ?_) (fun c12 => ?_)
  · try simp only [zq] at c12
    have hm0 : 0 < m := by omega
    refine g [[4],[3,0,3]] ?_;refine WL.yd (Yd.rem rfl rfl (by (try dsimp only); omega) (by (try dsimp only); omega)) rfl ?_;refine WL.yd (Yd.conv UnF.h UnF.h rfl (wr8 ⟨by (try dsimp only); omega, by (try dsimp only); omega⟩)) rfl ?_;obtain ⟨rfl, rfl, h125⟩ : m = n / 125 ∧ l = [UInt8.ofNat (n % 125 + 125)] ∧ 125 ≤ n := by rcases hm with h | h; exact ⟨h.1, h.2, by omega⟩; omega
    refine WL.know 18 (bt (UInt8.ofNat (n / 125))) rfl (by rw [btN (by omega)]; simp; omega) ?_;refine WL.so (SO.buildSlice1 UnF.h SzF.h ZvF.h rfl rfl rfl (vs := [_]) rfl rfl rfl) rfl ?_;rintro _ _ _ ⟨b19, hb19, rfl, rfl, rfl⟩;refine WL.so (SO.appendOw (o := some o) (len := 1) (n := 1) (xs := ([UInt8.ofNat (n % 125 + 125)].flatMap btC)) (size := 1) [_] [] [] rfl rfl Tryz.underlying27 Tryz.sizeOf5 Tryz.typeInfo5 Tryz.zeroValue5 rfl rfl rfl rfl ⟨rfl, .inr ⟨_, _, _, rfl, RdN.own (k := 0) (n := 1) rfl rfl⟩⟩ (za rfl) ho rfl (by omega) (by show (2 * (_ + _) + 1000) * 1 ≤ 2 ^ 48; omega) (by omega)) rfl ?_;rintro _ _ _ ⟨u1, hu1, rfl, rfl, rfl⟩;refine g [[4],[2,3,0]] ?_;refine WL.yd (Yd.quo rfl rfl (by (try dsimp only); omega) (by (try dsimp only); omega) (wr64 ⟨by (try dsimp only); omega, by (try dsimp only); omega⟩)) rfl (g [[2]] ?_);exact WP.againT (0, [UInt8.ofNat (n % 125 + 125), UInt8.ofNat (n / 125)], u1) ⟨.inr ⟨rfl, h125, rfl⟩, by simpa using hu1⟩ (by dsimp only; omega) [] _ rfl rfl ⟨(by show some (it _) = some (nt 0); congr 2; omega), rfl, trivial⟩
  try simp only [zq] at c12
  refine g [[6]] ?_;obtain ⟨hm0, hm2⟩ : m = 0 ∧ ((n < 125 ∧ l = [UInt8.ofNat (n % 125 + 125)]) ∨ (125 ≤ n ∧ l = [UInt8.ofNat (n % 125 + 125), UInt8.ofNat (n / 125)])) := ⟨by omega, by rcases hm with h | h; exact .inl ⟨by omega, h.2⟩; exact .inr h.2⟩;subst hm0;rcases hm2 with ⟨hn1, rfl⟩ | ⟨hn1, rfl⟩
  · have hdl : digL n = [UInt8.ofNat (n % 125 + 125)] := by unfold digL; rw [if_pos hn1]; simp [Nat.mod_eq_of_lt hn1]
    refine g [[2,3]] ?_;refine WL.so (SO.altersF (own := []) (hpc := [_]) (S1 := [o.b]) rfl (fun _ h => h) (fun _ h => h) (Enters.func CaF.h rfl) (fun w1 hI => zy1 o.b o.cap (UInt8.ofNat (n % 125 + 125)) o.rest D w1 hI)) rfl ?_;rintro _ _ _ ⟨_, hX9, ⟨rfl, rfl⟩, rfl⟩;refine g [[3],[6,3]] ?_;refine WP.ret1 rfl rfl rfl (RV.tmp rfl) (fun w1 hI => ⟨_, D, _, rfl, DExt.refl _ _, hI, rfl, o, by rw [hdl] <;> rfl, by rw [hdl] <;> rfl, by rw [hdl]; exact ⟨Nat.le_trans h0 ho.1, ho.2⟩⟩)
  have hdl : digL n = [UInt8.ofNat (n / 125), UInt8.ofNat (n % 125 + 125)] := by unfold digL; rw [if_neg (by omega)]
  refine g [[2,3]] ?_;refine WL.so (SO.altersF (own := []) (hpc := [_]) (S1 := [o.b]) rfl (fun _ h => h) (fun _ h => h) (Enters.func CaF.h rfl) (fun w1 hI => zy2 o.b o.cap (UInt8.ofNat (n % 125 + 125)) (UInt8.ofNat (n / 125)) o.rest D w1 hI)) rfl ?_;rintro _ _ _ ⟨_, hX9, ⟨rfl, rfl⟩, rfl⟩;refine g [[3],[6,3]] ?_;refine WP.ret1 rfl rfl rfl (RV.tmp rfl) (fun w1 hI => ⟨_, D, _, rfl, DExt.refl _ _, hI, rfl, o, by rw [hdl] <;> rfl, by rw [hdl] <;> rfl, by rw [hdl]; exact ⟨Nat.le_trans h0 ho.1, ho.2⟩⟩)
section
variable (b p q pl n : Nat) (t : TypeId) (hp : p < 251) (hq : q < 251) (hpl : pl ≤ 2 ^ 20) (hn : n ≤ 600) (D : Imm) (w : World) (hI : Inv D [(b, .cells (List.toArray [nt p, nt q]) t (0, 0))] [b] w w)
include b p q pl n t hp hq hpl hn D w hI
theorem zuE : wP Tryz.prog 291 [pt b, nt pl, nt n] w D [b] (fun _ D' h' => D = D' ∧ h' = [(b, .cells (List.toArray [nt ((p + n) % 251), nt ((q + pl % 251 * n) % 251)]) t (0, 0))]) := by
  unfold wP;refine en Tryz.func291 rfl Tryz.ntmps291 hI (g [[1],[8,0,1,2]] ?_);refine WL.yd (Yd.add rfl rfl (wr64 ⟨by first | omega | (rw [h7]; omega), by first | omega | (rw [h7]; omega)⟩)) rfl ?_;refine WL.yd (Yd.rem rfl rfl (by first | omega | (rw [h7]; omega)) (by first | omega | (rw [h7]; omega))) rfl ?_;refine WL.know 14 (nt ((p + n) % 251)) rfl (by simp) (g [[6],[8,0,1,2]] ?_);have h9 : pl % 251 * n ≤ 250 * 600 := Nat.mul_le_mul (by omega) hn;have h7 : ((pl : Int) % 251) * (n : Int) = ((pl % 251 * n : Nat) : Int) := by simp
  refine WL.yd (Yd.rem rfl rfl (by first | omega | (rw [h7]; omega)) (by first | omega | (rw [h7]; omega))) rfl (g [[1]] ?_);refine WL.yd (Yd.mul rfl rfl (wr64 ⟨by first | omega | (rw [h7]; omega), by first | omega | (rw [h7]; omega)⟩)) rfl ?_;refine WL.yd (Yd.add rfl rfl (wr64 ⟨by first | omega | (rw [h7]; omega), by first | omega | (rw [h7]; omega)⟩)) rfl ?_;refine WL.yd (Yd.rem rfl rfl (by first | omega | (rw [h7]; omega)) (by first | omega | (rw [h7]; omega))) rfl ?_;refine WL.know 29 (nt ((q + pl % 251 * n) % 251)) rfl (by simp) (g [[5]] ?_);refine WP.ret0 rfl rfl rfl  (fun w1 hI => ⟨_, D, _, rfl, DExt.refl _ _, hI, (fun _ h => h), rfl, rfl⟩)
theorem zyj : wP Tryz.prog 290 [pt b, nt pl, nt n] w D [b] (fun _ D' h' => D = D' ∧ h' = [(b, .cells (List.toArray [nt ((p + (251 - n % 251)) % 251), nt ((q + pl % 251 * (251 - n % 251)) % 251)]) t (0, 0))]) := by
  unfold wP;refine en Tryz.func290 rfl Tryz.ntmps290 hI (g [[6,0,1,2]] ?_);refine WL.yd (Yd.rem rfl rfl (by omega) (by omega)) rfl (g [[1]] ?_);refine WL.know 12 (nt (251 - n % 251)) rfl (by congr 1; omega) ?_;refine WL.so (SO.altersF (own := []) (hpc := [_]) (S1 := [b]) rfl (fun _ h => h) (fun _ h => h) (Enters.func CaF.h rfl) (fun w1 hI => zuE b p q pl (251 - n % 251) t hp hq hpl (by omega) D w1 hI)) rfl ?_;rintro _ _ _ ⟨_, hX9, ⟨rfl, rfl⟩, rfl⟩;refine g [[1]] ?_;refine WP.ret0 rfl rfl rfl  (fun w1 hI => ⟨_, D, _, rfl, DExt.refl _ _, hI, (fun _ h => h), rfl, rfl⟩)
end
theorem zq7 : ∀ (l : Bs) (i p q : Nat), p < 251 → q < 251 → (sumF i p q l).1 < 251 ∧ (sumF i p q l).2 < 251
  | [], _, _, _, h1, h2 => ⟨h1, h2⟩
  | x :: r, i, p, q, h1, h2 => zq7 r (i + 1) _ _ (Nat.mod_lt _ (by omega)) (Nat.mod_lt _ (by omega))
theorem zsG : ∀ (l : Bs) (i p q : Nat), p < 251 → q < 251 → (takF i p q l).1 < 251 ∧ (takF i p q l).2 < 251
  | [], _, _, _, h1, h2 => ⟨h1, h2⟩
  | x :: r, i, p, q, h1, h2 => zsG r (i + 1) _ _ (Nat.mod_lt _ (by omega)) (Nat.mod_lt _ (by omega))
theorem zne {α : Type} [Inhabited α] {l : List α} {k : Nat} (h : k < l.length) : l.drop k = gt l k :: l.drop (k + 1) := by
  rw [List.drop_eq_getElem_cons h]; simp [gt, List.getD, h]
section
variable (l : Bs) (a : Option Addr) (n c : Nat) (D : Imm) (hS : SlL D 1 (l.map btC) a n) (hn : n ≤ 2 ^ 19)
include l a n c D hS hn
section
variable (b p q : Nat) (hp : p < 251) (hq : q < 251) (w : World)
include b p q hp hq w
theorem zv9 (hI : Inv D [(b, .cells (List.toArray [nt p, nt q]) 118 (0, 0))] [b] w w) : wP Tryz.prog 55 [.iface 218 (pt b), .slice a n c] w D [b] (fun _ D' h' => D = D' ∧ h' = [(b, .cells (List.toArray [nt (sumF 0 p q l).1, nt (sumF 0 p q l).2]) 118 (0, 0))]) := by
  unfold wP;obtain rfl : n = l.length := hS.len';refine en Tryz.func55 rfl Tryz.ntmps55 hI (g [[1],[7,0,1]] ?_);refine WC.loopT [] (fun y : Nat × Nat × Nat => [(0, .iface 218 (pt b)), (6, .slice a l.length c), (7, nt l.length), (8, nt y.1)]) (fun y => [(b, .cells (List.toArray [nt y.2.1, nt y.2.2]) 118 (0, 0))]) (fun y => y.1 ≤ l.length ∧ y.2.1 < 251 ∧ y.2.2 < 251 ∧ sumF y.1 y.2.1 y.2.2 (l.drop y.1) = sumF 0 p q l) (fun y => l.length - y.1) (0, p, q) ⟨Nat.zero_le _, hp, hq, rfl⟩ rfl ⟨rfl, rfl, rfl, rfl, trivial⟩ ?_;rintro ⟨k, p1, q1⟩ ⟨hk, hp1, hq1, hF⟩;dsimp only at hk hp1 hq1 hF;refine g [[1],[5,0,6,7,8]] ?_;refine WC.cond rfl (fun c9 => ?_) (fun c9 => ?_)
  · try simp only [zq] at c9
    have hkl : k < l.length := by omega
    have hb8 := (gt l k).toNat_lt;refine g [[5],[2,0,6,7,8]] ?_;refine WL.yd (Yd.indexS UnF.h SzF.h rfl rfl (by (try dsimp only); omega) (by (try dsimp only); omega) (hS.addr k (by omega))) rfl ?_;refine WL.yd (Yd.l1 rfl ((hS.at k (by omega)).rd 0 rfl)) rfl (g [[4],[3,5,4,0,6,7,8]] ?_);refine WL.yd (Yd.add rfl rfl (wr64 ⟨by (try dsimp only); omega, by (try dsimp only); omega⟩)) rfl (g [[1]] ?_);refine WL.yd (Yd.conv UnF.h UnF.h rfl (wr64 ⟨by omega, by omega⟩)) rfl (WL.so (SO.altersF (own := []) (hpc := [_]) (S1 := [b]) rfl (fun _ h => h) (fun _ h => h) (Enters.meth CaF.h (fun w => by kernel_rfl) rfl rfl) (fun w1 hI => zuE b p1 q1 (k + 1) (gt l k).toNat _ hp1 hq1 (by omega) (by omega) D w1 hI)) rfl ?_);rintro _ _ _ ⟨_, hX9, ⟨rfl, rfl⟩, rfl⟩;refine g [[3],[1,0,6,7,8]] ?_;refine WL.yd (Yd.add rfl rfl (wr64 ⟨by (try dsimp only); omega, by (try dsimp only); omega⟩)) rfl (g [[2]] ?_);exact WP.againT (k + 1, ((p1 + (gt l k).toNat) % 251), ((q1 + (k + 1) % 251 * (gt l k).toNat) % 251)) ⟨hkl, Nat.mod_lt _ (by omega), Nat.mod_lt _ (by omega), by rw [zne hkl] at hF; exact hF⟩ (by dsimp only; omega) [] _ rfl rfl ⟨rfl, rfl, rfl, rfl, trivial⟩
  try simp only [zq] at c9
  obtain rfl : k = l.length := by omega
  refine g [[4]] ?_;refine WP.ret0 rfl rfl rfl  (fun w1 hI => ⟨_, D, _, rfl, DExt.refl _ _, hI, (fun _ h => h), rfl, by rw [List.drop_length] at hF; rw [← hF]; rfl⟩)
theorem zva (hI : Inv D [(b, .cells (List.toArray [nt p, nt q]) 120 (0, 0))] [b] w w) : wP Tryz.prog 55 [.iface 122 (pt b), .slice a n c] w D [b] (fun _ D' h' => D = D' ∧ h' = [(b, .cells (List.toArray [nt (takF 0 p q l).1, nt (takF 0 p q l).2]) 120 (0, 0))]) := by
  unfold wP;obtain rfl : n = l.length := hS.len';refine en Tryz.func55 rfl Tryz.ntmps55 hI (g [[1],[7,0,1]] ?_);refine WC.loopT [] (fun y : Nat × Nat × Nat => [(0, .iface 122 (pt b)), (6, .slice a l.length c), (7, nt l.length), (8, nt y.1)]) (fun y => [(b, .cells (List.toArray [nt y.2.1, nt y.2.2]) 120 (0, 0))]) (fun y => y.1 ≤ l.length ∧ y.2.1 < 251 ∧ y.2.2 < 251 ∧ takF y.1 y.2.1 y.2.2 (l.drop y.1) = takF 0 p q l) (fun y => l.length - y.1) (0, p, q) ⟨Nat.zero_le _, hp, hq, rfl⟩ rfl ⟨rfl, rfl, rfl, rfl, trivial⟩ ?_;rintro ⟨k, p1, q1⟩ ⟨hk, hp1, hq1, hF⟩;dsimp only at hk hp1 hq1 hF;refine g [[1],[5,0,6,7,8]] ?_;refine WC.cond rfl (fun c9 => ?_) (fun c9 => ?_)
  · try simp only [zq] at c9
    have hkl : k < l.length := by omega
    have hb8 := (gt l k).toNat_lt;refine g [[5],[2,0,6,7,8]] ?_;refine WL.yd (Yd.indexS UnF.h SzF.h rfl rfl (by (try dsimp only); omega) (by (try dsimp only); omega) (hS.addr k (by omega))) rfl ?_;refine WL.yd (Yd.l1 rfl ((hS.at k (by omega)).rd 0 rfl)) rfl (g [[4],[3,5,4,0,6,7,8]] ?_);refine WL.yd (Yd.add rfl rfl (wr64 ⟨by (try dsimp only); omega, by (try dsimp only); omega⟩)) rfl (g [[1]] ?_);refine WL.yd (Yd.conv UnF.h UnF.h rfl (wr64 ⟨by omega, by omega⟩)) rfl (WL.so (SO.altersF (own := []) (hpc := [_]) (S1 := [b]) rfl (fun _ h => h) (fun _ h => h) (Enters.meth CaF.h (fun w => by kernel_rfl) rfl rfl) (fun w1 hI => zyj b p1 q1 (k + 1) (gt l k).toNat _ hp1 hq1 (by omega) (by omega) D w1 hI)) rfl ?_);rintro _ _ _ ⟨_, hX9, ⟨rfl, rfl⟩, rfl⟩;refine g [[3],[1,0,6,7,8]] ?_;refine WL.yd (Yd.add rfl rfl (wr64 ⟨by (try dsimp only); omega, by (try dsimp only); omega⟩)) rfl (g [[2]] ?_);exact WP.againT (k + 1, ((p1 + (251 - (gt l k).toNat % 251)) % 251), ((q1 + (k + 1) % 251 * (251 - (gt l k).toNat % 251)) % 251)) ⟨hkl, Nat.mod_lt _ (by omega), Nat.mod_lt _ (by omega), by rw [zne hkl] at hF; exact hF⟩ (by dsimp only; omega) [] _ rfl rfl ⟨rfl, rfl, rfl, rfl, trivial⟩
  try simp only [zq] at c9
  obtain rfl : k = l.length := by omega
  refine g [[4]] ?_;refine WP.ret0 rfl rfl rfl  (fun w1 hI => ⟨_, D, _, rfl, DExt.refl _ _, hI, (fun _ h => h), rfl, by rw [List.drop_length] at hF; rw [← hF]; rfl⟩)
end
theorem znK (w : World) (hH : Holds D w) : z8 Tryz.prog 54 [.slice a n c] w (.agg #[nt (kd l).1, nt (kd l).2]) := by
  unfold z8;refine en Tryz.func54 rfl Tryz.ntmps54 (Inv.start hH) (g [[1],[1,0]] ?_);refine WL.so (SO.alloc ZvF.h rfl) rfl (zw fun b2 hb2 => ?_);refine g [[3],[1,2,0]] ?_;refine WL.so (SO.alloc ZvF.h rfl) rfl (zw fun b3 hb3 => ?_);refine g [[3],[3,3,2,0]] ?_;refine WL.so (SO.altersF (own := [_]) (hpc := [_]) (S1 := [b3]) rfl (fun _ h => h) (fun _ h => h) (Enters.func CaF.h rfl) (fun w1 hI => zv9 l a n c D hS hn b3 0 0 (by decide) (by decide) w1 hI)) rfl ?_;rintro _ _ _ ⟨_, hX9, ⟨rfl, rfl⟩, rfl⟩;refine g [[3],[7,3,2]] ?_;refine WP.ret1 rfl rfl rfl (RV.cellN AgF.h SzF.h rfl (vs := [_, _]) rfl (RdN.own (k := 1) (n := 2) rfl rfl)) (fun w hI => ⟨rfl, hI.keep⟩)
end
theorem RdN.app {D : Imm} {hp : Hp} {k b : Nat} {ys rest : List Value} {e : TypeId} {fz : Nat × Nat} (hk : hp[k]? = some (b, .cells (ys ++ rest).toArray e fz)) : RdN D hp b 0 ys := fun j v hj =>
  Rd.own hk (by rw [Nat.zero_add, List.getElem?_append_left (List.getElem?_eq_some_iff.1 hj).1]; exact hj)
theorem zoM (l : Bs) : ∀ v ∈ l.flatMap btC, v.oneCell' = true := fun v hv => by
  obtain ⟨b, _, hb⟩ := List.mem_flatMap.1 hv;simp only [btC, List.mem_singleton] at hb;rw [hb]; rfl
def hC (h : Hors) (k : Nat) : Bs := (digL h.pace.toNat ++ digL h.moves.length) ++ (h.moves.take k).flatMap fun m => (zmM m).flatMap digL
def hCj (h : Hors) (k j : Nat) : Bs := hC h k ++ ((zmM (gt h.moves k)).take j).flatMap digL
theorem zpS (h : Hors) : hC h 0 = digL h.pace.toNat ++ digL h.moves.length := by simp [hC]
theorem zup (h : Hors) : hC h h.moves.length = k2 h := by simp [hC, k2]
theorem zpi (h : Hors) : (zmX h).length = (k2 h).length + 2 := by simp [zmX, zr8]
theorem zoT (h : Hors) (k : Nat) : hCj h k 0 = hC h k := by simp [hCj]
theorem zoS {h : Hors} {k j : Nat} (hj : j < 4) : hCj h k (j + 1) = hCj h k j ++ digL (gt (zmM (gt h.moves k)) j) := by
  unfold hCj; rw [zoQ (f := digL) (l := zmM (gt h.moves k)) hj]; simp
theorem zpT {h : Hors} {k : Nat} (hk : k < h.moves.length) : hCj h k 4 = hC h (k + 1) := by
  unfold hCj hC;rw [zoQ (f := fun m => (zmM m).flatMap digL) hk, List.take_of_length_le (l := zmM (gt h.moves k)) (Nat.le_refl 4)]; simp
theorem zrZ (m : Mv) : ((zmM m).flatMap digL).length ≤ 8 := by
  have h1 := zov (l := zmM m) (f := digL) (c := 2) fun n _ => (zn4 n).2;exact h1
theorem zrD {h : Hors} (ok : zmV h) (k : Nat) : (hC h k).length ≤ 60 := by
  have h1 := ztk (f := fun m => (zmM m).flatMap digL) (c := 8) (fun m _ => zrZ m) ok.n k;have := (zn4 h.pace.toNat).2; have := (zn4 h.moves.length).2;simp only [hC, List.length_append]; omega
theorem zvu {h : Hors} (ok : zmV h) (k j : Nat) : (hCj h k j).length ≤ 68 := by
  have h1 := zrD ok k;have h2 := ztk (f := digL) (c := 2) (fun n _ => (zn4 n).2) (l := zmM (gt h.moves k)) (m := 4) (Nat.le_refl 4) j;simp only [hCj, List.length_append]; omega
section
variable {m : Mv} (h : (0 ≤ m.at_ ∧ m.at_ ≤ 200) ∧ (0 ≤ m.place ∧ m.place ≤ 30) ∧ 1 ≤ m.long.lo ∧ m.long.lo ≤ m.long.hi ∧ m.long.hi ≤ 20)
include m h
theorem zpX : [it m.at_, it m.place, it m.long.lo, it (m.long.hi - m.long.lo)] = (zmM m).flatMap ntC ++ [] := by
  have e : ∀ {z : Int}, 0 ≤ z → it z = nt z.toNat := fun {z} hz => by congr 1; omega
  rw [e h.1.1, e h.2.1.1, e (z := m.long.lo) (by omega), e (z := m.long.hi - m.long.lo) (by omega)];rfl
theorem ztJ {j : Nat} (hj : j < 4) : gt (zmM m) j ≤ 200 := by
  match j, hj with
  | 0, _ => show m.at_.toNat ≤ 200; omega
  | 1, _ => show m.place.toNat ≤ 200; omega
  | 2, _ => show m.long.lo.toNat ≤ 200; omega
  | 3, _ => show (m.long.hi - m.long.lo).toNat ≤ 200; omega
end
theorem zuh (h : Hors) (m : Sl) (ok : zmV h) (D : Imm) (hR : Ky D h m) (w : World) (hH : Holds D w) : y6 Tryz.prog 42 [k3 h m] w D (fun v D' => ∃ a n c, v = .slice a n c ∧ SlL D' 1 ((zmX h).map btC) a n ∧ n ≤ c) := by
  unfold y6;obtain ⟨ma, mn, mc⟩ := m;obtain rfl : mn = h.moves.length := hR.r.len';have hRm : SlL D 4 (h.moves.map mvC) ma h.moves.length := hR.r;have nm : h.moves.length ≤ 9223372036854775807 := hR.n;refine en Tryz.func42 rfl Tryz.ntmps42 (Inv.start hH) (g [[1],[1,0]] ?_);refine WL.so (SO.box rfl rfl) rfl (zw fun b1 hb1 => ?_);refine g [[4],[0,2,1]] ?_;refine WC.draw (pz [1,3,7,9,11,4,12,14,17]) zk zk zX (g [[5]] ?_);have hpc := ok.pace;refine WA.know 10 (nt h.pace.toNat) rfl (by congr 1; omega) ?_;refine WA.so rfl (SO.newsF (Enters.func CaF.h rfl) (fun w1 hI => zoO h.pace.toNat (by omega) _ w1 hI.imm w hI.keep.size)) rfl ?_;rintro _ _ _ ⟨_, hX0, ⟨rfl, o1, rfl, rfl, ho1⟩, rfl⟩;refine ⟨fun _ hI => hI.drop 1, ?_⟩;refine WA.so rfl (SO.newsF (Enters.func CaF.h rfl) (fun w1 hI => zoO h.moves.length (by have := ok.n; omega) _ w1 hI.imm w hI.keep.size)) rfl ?_;rintro _ _ _ ⟨_, hX0, ⟨rfl, o2, rfl, rfl, ho2⟩, rfl⟩;refine ⟨fun _ hI => hI.drop 2, ?_⟩;have hd1 := zn4 h.pace.toNat;have hd2 := zn4 h.moves.length;refine WA.so rfl (SO.appendOw (o := some o1) (len := (digL h.pace.toNat).length) (n := (digL h.moves.length).length) (xs := ((digL h.pace.toNat).flatMap btC)) (size := 1) [_] [] [_] rfl rfl Tryz.underlying27 Tryz.sizeOf5 Tryz.typeInfo5 Tryz.zeroValue5 rfl rfl rfl rfl ⟨zr zmo _, .inr ⟨_, _, _, rfl, RdN.app (k := 0) rfl⟩⟩ (zoM _) ho1 (zr zmo _) (by omega) (by show (2 * (_ + _) + 1000) * 1 ≤ 2 ^ 48; omega) (by omega)) rfl ?_;rintro _ _ _ ⟨u1, hu1, rfl, rfl, rfl⟩;refine ⟨fun _ hI => hI.drop 1, ?_⟩;refine g [[5],[8,3,2,1]] ?_;refine WC.loopT [] (fun y : Nat × Ow => [(1, pt b1), (3, owV (some y.2) (hC h y.1).length), (18, .slice ma h.moves.length mc), (19, nt h.moves.length), (20, nt y.1)]) (fun y => owH (some y.2) 5 ((hC h y.1).flatMap btC) [(b1, .cells (List.toArray [it h.pace, .slice ma h.moves.length mc]) 24 (0, 0))]) (fun y => y.1 ≤ h.moves.length ∧ owP w (some y.2) (hC h y.1).length 1) (fun y => h.moves.length - y.1) (0, u1) ⟨Nat.zero_le _, by dsimp only; rw [zpS, List.length_append]; exact hu1⟩ (by show _ = _ ++ owH (some u1) _ ((hC h 0).flatMap btC) _; rw [zpS, List.flatMap_append] <;> rfl) ⟨rfl, by show _ = some (owV (some u1) (hC h 0).length); rw [zpS, List.length_append] <;> rfl, rfl, rfl, rfl, trivial⟩ ?_;rintro ⟨k, o⟩ ⟨hk, ho⟩;dsimp only at hk ho;have hlk := zrD ok k;refine g [[1],[5,1,3,18,19,20]] ?_;refine WC.cond rfl (fun c21 => ?_) (fun c21 => ?_)
  · try simp only [zq] at c21
    have hkl : k < h.moves.length := by omega
    have hm := ok.moves _ (k5 hkl);refine g [[5],[1,1,3,18,19,20]] ?_;refine WL.yd (Yd.indexS UnF.h SzF.h rfl rfl (by (try dsimp only); omega) (by (try dsimp only); omega) (hRm.addr k (by omega))) rfl ?_;refine WL.yd (Yd.lV [_, _, _, _] rfl ((hRm.at k (by omega)).rdn 0 4 rfl)) rfl ?_;refine WL.so (SO.alloc ZvF.h rfl) rfl (zw fun b5 hb5 => ?_);refine g [[4],[14,5,1,3,18,19,20]] ?_;refine WL.yd (Yd.sub rfl rfl (wr64 ⟨by (try dsimp only); omega, by (try dsimp only); omega⟩)) rfl ?_;refine WL.so (SO.buildSlice1 UnF.h SzF.h ZvF.h rfl rfl rfl (vs := [_, _, _, _]) rfl rfl rfl) rfl ?_;rintro _ _ _ ⟨b38, hb38, rfl, rfl, rfl⟩;refine g [[5]] ?_;refine WC.hpEq (congrArg (fun cs : List Value => ((b38, Obj.cells (List.toArray cs) 3 (0, 0)) :: _ : Hp)) (zpX hm)) ?_;refine WC.loopT [_, _] (fun y : Nat × Ow => [(1, pt b1), (3, owV (some y.2) (hCj h k y.1).length), (18, .slice ma h.moves.length mc), (19, nt h.moves.length), (20, nt k), (38, .slice (some ⟨b38, 0, none⟩) 4 4), (39, nt 4), (40, nt y.1)]) (fun y => owH (some y.2) 5 ((hCj h k y.1).flatMap btC) [(b1, .cells (List.toArray [it h.pace, .slice ma h.moves.length mc]) 24 (0, 0))]) (fun y => y.1 ≤ 4 ∧ owP w (some y.2) (hCj h k y.1).length 1) (fun y => 4 - y.1) (0, o) ⟨Nat.zero_le _, by dsimp only; rw [zoT]; exact ho⟩ (by show _ = _ ++ owH (some o) _ ((hCj h k 0).flatMap btC) _; rw [zoT]; rfl) ⟨rfl, by show _ = some (owV (some o) (hCj h k 0).length); rw [zoT] <;> rfl, rfl, rfl, rfl, rfl, rfl, rfl, trivial⟩ ?_;rintro ⟨j, o⟩ ⟨hj, ho⟩;dsimp only at hj ho;have hlj := zvu ok k j;refine g [[1],[5,1,3,18,19,20,38,39,40]] ?_;refine WC.cond rfl (fun c41 => ?_) (fun c41 => ?_)
    · try simp only [zq] at c41
      have hj4 : j < 4 := by omega
      refine g [[5],[1,1,3,18,19,20,38,39,40]] ?_;refine WL.yd (Yd.indexS UnF.h SzF.h rfl rfl (by (try dsimp only); omega) (by (try dsimp only); omega) (rfl)) rfl ?_;refine WL.yd (Yd.l1 rfl (Rd.flat zok (k := 0) (i := j) (j := 0) (l := zmM (gt h.moves k)) (rest := []) rfl hj4 (by decide) rfl)) rfl (g [[3],[3,7,1,3,18,19,20,38,39,40]] ?_);refine WL.so (SO.newsF (Enters.func CaF.h rfl) (fun w1 hI => zoO (gt (zmM (gt h.moves k)) j) (ztJ hm hj4) _ w1 hI.imm w hI.keep.size)) rfl ?_;rintro _ _ _ ⟨_, hX0, ⟨rfl, o2, rfl, rfl, ho2⟩, rfl⟩;have hd2 := zn4 (gt (zmM (gt h.moves k)) j);refine WL.so (SO.appendOw (o := some o) (len := (hCj h k j).length) (n := (digL (gt (zmM (gt h.moves k)) j)).length) (xs := ((hCj h k j).flatMap btC)) (size := 1) [_] [_, _] [_] rfl rfl Tryz.underlying27 Tryz.sizeOf5 Tryz.typeInfo5 Tryz.zeroValue5 rfl rfl rfl rfl ⟨zr zmo _, .inr ⟨_, _, _, rfl, RdN.app (k := 0) rfl⟩⟩ (zoM _) ho (zr zmo _) (by omega) (by show (2 * (_ + _) + 1000) * 1 ≤ 2 ^ 48; omega) (by omega)) rfl ?_;rintro _ _ _ ⟨u2, hu2, rfl, rfl, rfl⟩;refine g [[4],[1,3,1,18,19,20,38,39,40]] ?_;refine WL.yd (Yd.add rfl rfl (wr64 ⟨by (try dsimp only); omega, by (try dsimp only); omega⟩)) rfl (g [[2]] ?_);exact WP.againT (j + 1, u2) ⟨hj4, by dsimp only; rw [zoS hj4, List.length_append]; exact hu2⟩ (by dsimp only; omega) [] _ rfl (by show _ = _ ++ owH (some u2) _ ((hCj h k (j + 1)).flatMap btC) _; rw [zoS hj4, List.flatMap_append]; rfl) ⟨rfl, by show _ = some (owV (some u2) (hCj h k (j + 1)).length); rw [zoS hj4, List.length_append] <;> rfl, rfl, rfl, rfl, rfl, rfl, rfl, trivial⟩
    try simp only [zq] at c41
    obtain rfl : j = 4 := by omega
    refine g [[6],[1,1,3,18,19,20]] ?_;refine WL.yd (Yd.add rfl rfl (wr64 ⟨by (try dsimp only); omega, by (try dsimp only); omega⟩)) rfl (g [[2]] ?_);exact WP.againT (k + 1, o) ⟨hkl, by dsimp only; rw [← zpT hkl]; exact ho⟩ (by dsimp only; omega) [_, _] _ rfl (by show _ = _ ++ owH (some o) _ ((hC h (k + 1)).flatMap btC) _; rw [← zpT hkl]; rfl) ⟨rfl, by show _ = some (owV (some o) (hC h (k + 1)).length); rw [← zpT hkl] <;> rfl, rfl, rfl, rfl, trivial⟩
  try simp only [zq] at c21
  obtain rfl : k = h.moves.length := by omega
  rw [zup] at ho hlk ⊢;refine g [[6],[2,3]] ?_;refine WL.cl rfl (fun w hI => znK (k2 h) _ _ _ _ (SlL.ofBlock (l := k2 h) (f := btC) (m := 1) zmo (Imm.add_self _ _ _)) (by omega) _ (hI.freezeK 0 rfl).2.imm) ?_;refine WL.so (SO.alloc ZvF.h rfl) rfl (zw fun b8 hb8 => ?_);refine g [[4],[1,8,3]] ?_;have hsl := zq7 (k2 h) 0 0 0 (by decide) (by decide);have hs1 : (kd (k2 h)).1 < 251 := hsl.1;have hs2 : (kd (k2 h)).2 < 251 := hsl.2;refine g [[3]] ?_;refine WL.yd (Yd.conv UnF.h UnF.h rfl (wr8 ⟨by (try dsimp only); omega, by (try dsimp only); omega⟩)) rfl ?_;refine WL.know 55 (bt (UInt8.ofNat (kd (k2 h)).1)) rfl (btN (by omega)).symm (g [[2]] ?_);refine WL.yd (Yd.conv UnF.h UnF.h rfl (wr8 ⟨by (try dsimp only); omega, by (try dsimp only); omega⟩)) rfl ?_;refine WL.know 58 (bt (UInt8.ofNat (kd (k2 h)).2)) rfl (btN (by omega)).symm (WL.so (SO.buildSlice1 UnF.h SzF.h ZvF.h rfl rfl rfl (vs := [_, _]) rfl rfl rfl) rfl ?_);rintro _ _ _ ⟨b59, hb59, rfl, rfl, rfl⟩;refine WL.so (SO.appendOw (o := some o) (len := (k2 h).length) (n := 2) (xs := ((k2 h).flatMap btC)) (size := 1) [_] [_] [_] rfl rfl Tryz.underlying27 Tryz.sizeOf5 Tryz.typeInfo5 Tryz.zeroValue5 rfl rfl rfl rfl ⟨rfl, .inr ⟨_, _, _, rfl, RdN.own (k := 0) (n := 2) rfl rfl⟩⟩ (za rfl) ho (zr zmo _) (by omega) (by show (2 * (_ + _) + 1000) * 1 ≤ 2 ^ 48; omega) (by omega)) rfl ?_;rintro _ _ _ ⟨u3, hu3, rfl, rfl, rfl⟩;refine WL.freezeOw (f := btC) (m := 1) zmo [_] [_] (some u3) 5 (zmX h) rfl (by show owP w _ (k2 h ++ [_, _]).length 1; rw [List.length_append]; exact hu3) (by show _ = _ ++ owH (some u3) _ ((k2 h ++ [_, _]).flatMap btC) _; rw [List.flatMap_append]; rfl) (fun D2 hX2 hS2 => ?_);refine g [[4]] ?_;refine WP.ret1 rfl rfl rfl (RV.tmp rfl) (fun w1 hI => ⟨_, D2, rfl, hI.keep, hI.imm, hX2, _, _, _, rfl, zpi h ▸ hS2, hu3.2.1⟩)
theorem zyw : zj Tryz.prog 113 [.int .i64 0, .int .i64 0] [(0, 1), (1, 1)] := ⟨⟨_, Tryz.zeroValue113, rfl⟩, _, Tryz.underlying113, fun w => by simp [Tryz.sizeOf3]⟩
abbrev zwD := SaF.mk zyw
attribute [instance] zwD
def big (x : UInt8) : Bool := decide (251 ≤ x.toNat)
def idxB (l : Bs) : Int := if l.any big = true then (l.findIdx big : Int) else -1
theorem ztv {l : Bs} {k : Nat} (hk : k < l.length) (h : (l.take k).any big = false) (hb : big (gt l k) = true) : idxB l = (k : Int) := by
  have e : gt l k = l[k] := by simp [gt, List.getD, hk]
  have h1 : l.any big = true := List.any_eq_true.2 ⟨gt l k, k5 hk, hb⟩
  have h2 : l.findIdx big = k := (List.findIdx_eq hk).2 ⟨e ▸ hb, fun j hj => by
    have := List.any_eq_false.1 h l[j] (by rw [List.mem_take_iff_getElem]; exact ⟨j, by omega, rfl⟩);simpa using this⟩
  unfold idxB; rw [if_pos h1, h2]
theorem zsY {l : Bs} {p : UInt8 → Bool} {k : Nat} (hk : k < l.length) : (l.take (k + 1)).any p = ((l.take k).any p || p (gt l k)) := by
  have e : gt l k = l[k] := by simp [gt, List.getD, hk]
  rw [List.take_succ_eq_append_getElem hk, List.any_append, e]; simp
theorem zqr (l : Bs) : decide (0 ≤ idxB l) = l.any big := by
  unfold idxB; split
  · rename_i h; rw [h]; simp
  rename_i h; rw [Bool.not_eq_true] at h; rw [h]; rfl
theorem zz6 (x : UInt8) (w : World) : z8 Tryz.prog 125 [bt x] w (.bool (big x)) := by
  unfold z8;refine en Tryz.func125 rfl Tryz.ntmps125 zI (g [[1],[5,0],[7,2,0]] ?_);refine WP.ret1 rfl rfl rfl (RV.tmp rfl) (fun w hI => ⟨zb (by unfold big; rw [Bool.eq_iff_iff]; simp; omega), hI.keep⟩)
section
variable (l : Bs) (a : Option Addr) (n c : Nat) (D : Imm) (hS : SlL D 1 (l.map btC) a n) (hn : n ≤ 2 ^ 40) (w : World) (hH : Holds D w)
include l a n c D hS hn w hH
theorem zxG : z8 Tryz.prog 183 [.slice a n c, .func (.func 125) #[] #[]] w (it (idxB l)) := by
  unfold z8;obtain rfl : n = l.length := hS.len';refine en Tryz.func183 rfl Tryz.ntmps183 (Inv.start hH) (g [[1],[6,0,1],[7,4,0,1]] ?_);refine WC.loopF (fun k : Nat => [(0, .slice a l.length c), (1, .func (.func 125) #[] #[]), (6, .slice a l.length c), (7, nt l.length), (8, nt k)]) (fun k => k ≤ l.length ∧ (l.take k).any big = false) (fun k => l.length - k) 0 ⟨Nat.zero_le _, rfl⟩ ⟨rfl, rfl, rfl, rfl, rfl, trivial⟩ ?_;rintro k ⟨hk, hany⟩;refine g [[1],[5,0,1,6,7,8]] ?_;refine WC.cond rfl (fun c9 => ?_) (fun c9 => ?_)
  · try simp only [zq] at c9
    have hkl : k < l.length := by omega
    refine g [[5],[6,0,1,6,7,8],[4,5,0,1,6,7,8]] ?_;refine WL.yd (Yd.ix rfl rfl (hS.addr k (by omega))) rfl (WL.yd (Yd.l1 rfl ((hS.at k (by omega)).rd 0 rfl)) rfl ?_);refine WL.so (SO.call (Enters.val CaF.h rfl rfl) (fun w hI => zz6 (gt l k) _)) rfl (zs (g [[2]] ?_));refine WC.cond rfl (fun c16 => ?_) (fun c16 => ?_)
    · refine g [[1],[11,5,0,1,6,7,8]] ?_;refine WP.ret1 rfl rfl rfl (RV.tmp rfl) (fun w hI => ⟨by rw [ztv hkl hany c16], hI.keep⟩)
    refine g [[3],[4,0,1,6,7,8]] ?_;exact WP.againF (k + 1) ⟨hkl, by rw [zsY hkl, hany, c16]; rfl⟩ (by omega) ⟨rfl, rfl, rfl, rfl, rfl, trivial⟩ (fun _ h => nomatch h) (fun _ => List.nodup_nil)
  try simp only [zq] at c9
  obtain rfl : k = l.length := by omega
  rw [List.take_length] at hany;refine g [[6]] ?_;refine WC.ofFr [] trivial (g [[5]] ?_);refine WP.ret1 rfl rfl rfl (RV.tmp rfl) (fun w hI => ⟨by unfold idxB; rw [if_neg (by rw [hany]; simp)], hI.keep⟩)
theorem zuk : z8 Tryz.prog 124 [.slice a n c, .func (.func 125) #[] #[]] w (.bool (l.any big)) := by
  unfold z8;refine en Tryz.func124 rfl Tryz.ntmps124 (Inv.start hH) (g [[1],[5,0,1],[3,4,0,1]] ?_);refine WL.cl rfl (fun w hI => zxG l a n c D hS hn _ hI.imm) (g [[5]] ?_);refine WP.ret1 rfl rfl rfl (RV.tmp rfl) (fun w hI => ⟨zb (by first | exact zqr l | (rw [← zqr l]; rfl)), hI.keep⟩)
end
theorem zr2 {l : Bs} (h : 250 < l.length) : zmp l = 3 := by unfold zmp; rw [if_pos h]
theorem ztM {l : Bs} (h : l.length ≤ 250) (h2 : 2 ≤ l.length) (h3 : l.any big = false) : zmp l = 0 := by
  unfold zmp; rw [if_neg (by omega), if_pos ⟨h2, h3⟩]
theorem zoC {l : Bs} (h : l.length ≤ 250) (h2 : 2 ≤ l.length → l.any big = true) : zmp l = 8 := by
  unfold zmp;rw [if_neg (by omega), if_neg];rintro ⟨h3, h4⟩;have : l.any big = false := h4
  rw [h2 h3] at this; cases this
theorem zno {l : Bs} (h : zmp l = 0) : l.length ≤ 250 ∧ 2 ≤ l.length ∧ l.any big = false := by
  unfold zmp at h;split at h
  · cases h
  split at h
  · rename_i h1 h2; exact ⟨by omega, h2⟩
  cases h
theorem zny {D : Imm} {l : Bs} {a : Option Addr} {n : Nat} (hS : SlL D 1 (l.map btC) a n) : SlL D 1 ((js l).map btC) a (n - 2) := by
  have := hS.take (k := n - 2) (by omega);unfold js;rw [List.map_take, ← hS.len']; exact this
section
variable (l : Bs) (a : Option Addr) (n c : Nat) (D : Imm) (hS : SlL D 1 (l.map btC) a n) (hn : n ≤ 2 ^ 40) (hc : n ≤ c)
include l a n c D hS hn hc
theorem x4 (h0 : zmp l = 0) (w : World) (hH : Holds D w) : z8 Tryz.prog 53 [.slice a n c] w (.tuple #[.slice a (n - 2) c, .agg #[nt (zmB l).1, nt (zmB l).2]]) := by
  unfold z8;obtain rfl : n = l.length := hS.len';have ho := zno h0;refine en Tryz.func53 rfl Tryz.ntmps53 (Inv.start hH) (g [[1],[2,0]] ?_);refine WL.so (SO.alloc ZvF.h rfl) rfl (zw fun b3 hb3 => ?_);refine g [[3],[4,3,2,0]] ?_;refine WL.know 7 (.bool true) rfl (congrArg Value.bool (decide_eq_true (by omega))) (WL.cl rfl (fun w hI => zmK _ _) (g [[3],[4,3,2,0]] ?_));refine WL.know 11 (.bool true) rfl (congrArg Value.bool (decide_eq_true (by omega))) (g [[2]] ?_);refine WL.sog rfl (SO.callP CaF.h rfl (fun w hI => zuk l a l.length c D hS hn _ hI.imm)) rfl (zs (g [[1]] ?_));refine WL.know 15 (.bool true) rfl (by rw [ho.2.2]; rfl) (g [[1]] ?_);refine WL.cl rfl (fun w hI => zmK _ _) (g [[3],[4,3,2,0]] ?_);refine WL.know 20 (nt (l.length - 2)) rfl (by congr 1; omega) (g [[4],[0,4,3,2,0]] ?_);refine WC.drawO [] (pz [1,3,5,7,9,11,13,15,17,19,21,23,25,27,29,31,32]) zk zk zX (fun _ hI => Inv.nil hI) ?_;have hb1 := (gt l (l.length - 2)).toNat_lt;have hb2 := (gt l (l.length - 1)).toNat_lt;refine g [[2]] ?_;refine WA.yd rfl (Yd.sliceTo Tryz.underlying27 Tryz.sizeOf5 rfl rfl (by omega)) rfl (g [[2]] ?_);refine WA.yd rfl (Yd.ix rfl rfl (hS.addr (l.length - 2) (by omega))) rfl (WA.yd rfl (Yd.l1 rfl ((hS.at (l.length - 2) (by omega)).rd 0 rfl)) rfl ?_);refine WA.yd rfl (Yd.conv UnF.h UnF.h rfl (wr64 ⟨by omega, by omega⟩)) rfl (g [[3]] ?_);refine WA.know 31 (nt (l.length - 1)) rfl (by congr 1; omega) ?_;refine WA.yd rfl (Yd.ix rfl rfl (hS.addr (l.length - 2) (by omega))) rfl (WA.yd rfl (Yd.l1 rfl ((hS.at (l.length - 1) (by omega)).rd 0 rfl)) rfl ?_);refine WA.yd rfl (Yd.conv UnF.h UnF.h rfl (wr64 ⟨by omega, by omega⟩)) rfl (g [[2]] ?_);refine WA.so rfl (SO.store 0 rfl SzF.h rfl rfl rfl rfl (zqb rfl) (za rfl)) rfl ?_;rintro _ _ _ ⟨rfl, rfl, rfl⟩;refine ⟨fun _ hI => Inv.nil hI, ?_⟩;refine g [[3]] ?_;refine WP.ret2 rfl rfl rfl (RV.tmp rfl) (RV.cellN AgF.h SzF.h rfl (vs := [_, _]) rfl (RdN.own (k := 0) (n := 2) rfl rfl)) (fun w hI => ⟨rfl, hI.keep⟩)
theorem zs8 (h0 : zmp l ≠ 0) (w : World) (hH : Holds D w) : xC Tryz.prog 53 [.slice a n c] w (zpI (zmp l)) := by
  unfold xC;obtain rfl : n = l.length := hS.len';refine en Tryz.func53 rfl Tryz.ntmps53 (Inv.start hH) (g [[1],[2,0]] ?_);refine WL.so (SO.alloc ZvF.h rfl) rfl (zw fun b3 hb3 => ?_);refine g [[3],[4,3,2,0]] ?_;refine WL.part 7 rfl (fun g7 => ?_) (fun g7 => ?_)
  · try simp only [zq] at g7
    refine WL.cl rfl (fun w hI => zmK _ _) (g [[3],[5,3,2,0]] ?_);refine WL.part 12 rfl (fun g12 => ?_) (fun g12 => ?_)
    · try simp only [zq] at g12
      refine g [[1]] ?_;refine WL.sog rfl (SO.callP CaF.h rfl (fun w hI => zuk l a l.length c D hS hn _ hI.imm)) rfl (zs (g [[2]] ?_));refine WL.part 16 rfl (fun g16 => ?_) (fun g16 => ?_)
      · try simp only [zq] at g16
        exact absurd (ztM (l := l) (by omega) (by omega) (by simpa using g16)) h0;skip
      try simp only [zq] at g16
      refine WL.nf rfl (fun w hI => zmw _ _) (g [[1]] ?_);refine WP.panicBody rfl (fun w hI => ⟨by rw [zoC (l := l) (by omega) (fun h => by first | (simpa using g16) | omega)], hI.keep⟩)
    try simp only [zq] at g12
    refine g [[4]] ?_;refine WL.nf rfl (fun w hI => zmw _ _) (g [[1]] ?_);refine WP.panicBody rfl (fun w hI => ⟨by rw [zoC (l := l) (by omega) (fun h => by first | (simpa using g16) | omega)], hI.keep⟩)
  try simp only [zq] at g7
  refine WL.nf rfl (fun w hI => zmw _ _) (g [[1]] ?_);refine WP.panicBody rfl (fun w hI => ⟨by rw [zr2 (by omega)], hI.keep⟩)
end
theorem zDz (x : UInt8) (w : World) : z8 Tryz.prog 126 [bt x] w (nt (x.toNat % 125)) := by
  unfold z8;refine en Tryz.func126 rfl Tryz.ntmps126 zI (g [[1],[5,0],[2,2,0]] ?_);refine WL.yd (Yd.conv UnF.h UnF.h rfl (wr64 ⟨by omega, by have := x.toNat_lt; omega⟩)) rfl ?_;refine WL.yd (Yd.rem rfl rfl (by first | omega | (have := x.toNat_lt; omega)) (by first | omega | (have := x.toNat_lt; omega))) rfl (g [[4]] ?_);refine WP.ret1 rfl rfl rfl (RV.tmp rfl) (fun w hI => ⟨by rfl, hI.keep⟩)
theorem Kv (x : UInt8) (w : World) : z8 Tryz.prog 127 [bt x] w (.bool (decide (125 ≤ x.toNat))) := by
  unfold z8;refine en Tryz.func127 rfl Tryz.ntmps127 zI (g [[1],[5,0],[7,2,0]] ?_);refine WP.ret1 rfl rfl rfl (RV.tmp rfl) (fun w hI => ⟨zb (by rw [Bool.eq_iff_iff]; simp; omega), hI.keep⟩)
theorem zpy (l : Bs) (a : Option Addr) (n c : Nat) (D : Imm) (hS : SlL D 1 (l.map btC) a n) (hn : n ≤ 2 ^ 19) (w : World) (hH : Holds D w) : Try2 57 [.slice a n c] w D (zmD 0 0 [] l) (fun out v D' => ∃ a n c, v = .slice a n c ∧ SlL D' 1 (out.map ntC) a n ∧ out.length ≤ l.length) := by
  unfold Try2;obtain rfl : n = l.length := hS.len';refine en Tryz.func57 rfl Tryz.ntmps57 (Inv.start hH) (g [[1],[4,0]] ?_);refine WC.scope (g [[1],[6,2,0],[5,4,3,2,0]] ?_);refine WC.label (g [[3],[7,5,4,3,2,0]] ?_);refine WC.loopT [] (fun y : Nat × Nat × Nat × List Nat × Option Ow => [(2, owV y.2.2.2.2 y.2.2.2.1.length), (3, nt y.2.1), (4, nt y.2.2.1), (5, .func (.func 126) #[] #[]), (10, .slice a l.length c), (11, nt l.length), (12, nt y.1)]) (fun y => owH y.2.2.2.2 3 (y.2.2.2.1.flatMap ntC) []) (fun y => y.1 ≤ l.length ∧ y.2.2.1 ≤ 3 ∧ (y.2.2.1 = 0 → y.2.1 = 0) ∧ (y.2.2.1 ≤ 1 → y.2.1 ≤ 124) ∧ (y.2.2.1 ≤ 2 → y.2.1 ≤ 15624) ∧ y.2.1 ≤ 1953124 ∧ zmD y.2.1 y.2.2.1 y.2.2.2.1 (l.drop y.1) = zmD 0 0 [] l ∧ owP w y.2.2.2.2 y.2.2.2.1.length 1 ∧ y.2.2.2.1.length ≤ y.1) (fun y => l.length - y.1) (0, 0, 0, [], none) ⟨Nat.zero_le _, Nat.zero_le _, fun _ => rfl, fun _ => Nat.zero_le _, fun _ => Nat.zero_le _, Nat.zero_le _, rfl, rfl, Nat.le_refl _⟩ rfl ⟨rfl, rfl, rfl, rfl, rfl, rfl, rfl, trivial⟩ ?_;rintro ⟨k, n1, many, out, o⟩ ⟨hk, hm3, hm0, hm1, hm2, hm4, hF, ho, hok⟩;dsimp only at hk hm3 hm0 hm1 hm2 hm4 hF ho hok;refine g [[1],[5,2,3,4,5,10,11,12]] ?_;refine WC.cond rfl (fun c13 => ?_) (fun c13 => ?_)
  · try simp only [zq] at c13
    have hkl : k < l.length := by omega
    have hb8 := (gt l k).toNat_lt;refine g [[5],[1,2,3,4,5,10,11,12]] ?_;refine WL.yd (Yd.indexS UnF.h SzF.h rfl rfl (by (try dsimp only); omega) (by (try dsimp only); omega) (hS.addr k (by omega))) rfl ?_;refine WL.yd (Yd.l1 rfl ((hS.at k (by omega)).rd 0 rfl)) rfl (g [[4],[6,7,2,3,4,5,10,11,12],[7,8,2,3,4,5,10,11,12],[3,9,8,2,3,4,5,10,11,12]] ?_);refine WL.part 20 rfl (fun g20 => ?_) (fun g20 => ?_)
    · try simp only [zq] at g20
      refine WL.cl rfl (fun w hI => zmK _ _) (g [[3],[2,9,8,2,3,4,5,10,11,12]] ?_);refine WL.yd (Yd.mul rfl rfl (wr64 ⟨by (try dsimp only); omega, by (try dsimp only); omega⟩)) rfl (g [[2]] ?_);refine WL.so (SO.call (Enters.val CaF.h rfl rfl) (fun w hI => zDz (gt l k) _)) rfl (zs ?_);refine WL.yd (Yd.add rfl rfl (wr64 ⟨by (try dsimp only); omega, by (try dsimp only); omega⟩)) rfl ?_;refine WL.know 27 (nt (125 * n1 + (gt l k).toNat % 125)) rfl (by congr 1) (g [[1]] ?_);refine WL.yd (Yd.add rfl rfl (wr64 ⟨by (try dsimp only); omega, by (try dsimp only); omega⟩)) rfl (g [[6],[2,4,3,9,2,5,10,11,12]] ?_);refine WL.so (SO.call (Enters.val CaF.h rfl rfl) (fun w hI => Kv (gt l k) _)) rfl (zs (g [[3]] ?_));refine WC.cond rfl (fun c32 => ?_) (fun c32 => ?_)
      · try simp only [zq] at c32
        refine g [[4],[1,4,3,2,5,10,11,12]] ?_;refine WL.yd (Yd.add rfl rfl (wr64 ⟨by (try dsimp only); omega, by (try dsimp only); omega⟩)) rfl (g [[2]] ?_);exact WP.againT (k + 1, (125 * n1 + (gt l k).toNat % 125), many + 1, out, o) ⟨hkl, by dsimp only; omega, fun h => by dsimp only at h ⊢; omega, fun h => by dsimp only at h ⊢; omega, fun h => by dsimp only at h ⊢; omega, by dsimp only; omega, by rw [zne hkl, zmD, if_pos (by omega), if_neg (by omega)] at hF; exact hF, ho, by dsimp only; omega⟩ (by dsimp only; omega) [] _ rfl rfl ⟨rfl, rfl, rfl, rfl, rfl, rfl, rfl, trivial⟩
      try simp only [zq] at c32
      refine g [[3],[3,4,3,2,5,10,11,12]] ?_;refine WL.so (SO.buildSlice1 UnF.h SzF.h ZvF.h rfl rfl rfl (vs := [_]) rfl rfl rfl) rfl ?_;rintro _ _ _ ⟨b35, hb35, rfl, rfl, rfl⟩;refine WL.so (SO.appendOw (o := o) (len := out.length) (n := 1) (xs := (out.flatMap ntC)) (size := 1) [_] [] [] rfl rfl Tryz.underlying31 Tryz.sizeOf3 Tryz.typeInfo3 Tryz.zeroValue3 rfl rfl rfl rfl ⟨rfl, .inr ⟨_, _, _, rfl, RdN.own (k := 0) (n := 1) rfl rfl⟩⟩ (za rfl) ho (zr zok _) (by omega) (by show (2 * (_ + _) + 1000) * 8 ≤ 2 ^ 48; omega) (by omega)) rfl ?_;rintro _ _ _ ⟨u1, hu1, rfl, rfl, rfl⟩;refine g [[3],[6,2,4,3,5,10,11,12],[1,4,3,2,5,10,11,12]] ?_;refine WL.yd (Yd.add rfl rfl (wr64 ⟨by (try dsimp only); omega, by (try dsimp only); omega⟩)) rfl (g [[2]] ?_);exact WP.againT (k + 1, 0, 0, out ++ [(125 * n1 + (gt l k).toNat % 125)], some u1) ⟨hkl, by dsimp only; omega, fun _ => rfl, fun _ => Nat.zero_le _, fun _ => Nat.zero_le _, Nat.zero_le _, by rw [zne hkl, zmD, if_pos (by omega), if_pos (by omega)] at hF; exact hF, by simpa using hu1, by simp; omega⟩ (by dsimp only; omega) [] _ rfl (by show _ = _ ++ owH (some u1) _ ((out ++ [_]).flatMap ntC) []; rw [List.flatMap_append]; rfl) ⟨by show _ = some (owV (some u1) (out ++ [_]).length); rw [List.length_append]; rfl, rfl, rfl, rfl, rfl, rfl, rfl, trivial⟩
    try simp only [zq] at g20
    refine WL.nf rfl (fun w hI => zmw _ _) (g [[6]] ?_);refine WP.scPanic ?_;refine WP.panicBody rfl (fun w hI => .inr ⟨by rw [zne hkl, zmD, if_neg (by omega)] at hF; exact hF.symm, rfl, hI.keep⟩)
  try simp only [zq] at c13
  obtain rfl : k = l.length := by omega
  refine g [[6],[3,2,4]] ?_;refine WL.part 39 rfl (fun g39 => ?_) (fun g39 => ?_)
  · try simp only [zq] at g39
    refine WL.cl rfl (fun w hI => zmK _ _) (g [[3],[1,2]] ?_);have hfin : zmD 0 0 [] l = some out := by rw [List.drop_length, zmD, if_pos (by omega)] at hF; exact hF.symm
    refine WL.freezeOw (f := ntC) (m := 1) zok [] [] o 3 out rfl ho rfl (fun D2 hX2 hS2 => ?_);refine g [[5]] ?_;refine WP.scRet ?_;refine WP.ret1 rfl rfl rfl (RV.tmp rfl) (fun w1 hI => .inl ⟨out, _, D2, hfin, rfl, hI.keep, hI.imm, hX2, owAt o, _, _, xg (wt ho), hS2, hok⟩)
  try simp only [zq] at g39
  refine WL.nf rfl (fun w hI => zmw _ _) (g [[1]] ?_);refine WP.scPanic ?_;refine WP.panicBody rfl (fun w hI => .inr ⟨by rw [List.drop_length, zmD, if_neg (by omega)] at hF; exact hF.symm, rfl, hI.keep⟩)
theorem ztR {a b k : Nat} (hk : k < 251) (h : ∀ j, j < k → j * b % 251 ≠ a) (hh : k * b % 251 = a) : quoN a b = k := by
  have : (List.range 251).find? (fun q => q * b % 251 == a) = some k := by
    rw [List.find?_range_eq_some];exact ⟨by simpa using hh, List.mem_range.2 hk, fun j hj => by simpa using h j hj⟩
  unfold quoN; rw [this]; rfl
theorem zsi {a b : Nat} (h : ∀ j, j < 251 → j * b % 251 ≠ a) : quoN a b = 0 := by
  have : (List.range 251).find? (fun q => q * b % 251 == a) = none := by
    rw [List.find?_range_eq_none];intro j hj; simpa using h j hj
  unfold quoN; rw [this]; rfl
theorem zDs (a b : Nat) (ha : a < 251) (hb : b < 251) (w : World) : z8 Tryz.prog 56 [nt a, nt b] w (nt (quoN a b)) := by
  unfold z8;refine en Tryz.func56 rfl Tryz.ntmps56 zI (g [[1],[6,0,1],[5,4,0,1]] ?_);refine WC.loopF (fun k : Nat => [(0, nt a), (1, nt b), (6, nt k)]) (fun k => k ≤ 251 ∧ ∀ j, j < k → j * b % 251 ≠ a) (fun k => 251 - k) 0 ⟨Nat.zero_le _, fun _ h => absurd h (Nat.not_lt_zero _)⟩ ⟨rfl, rfl, rfl, trivial⟩ ?_;rintro k ⟨hk, hF⟩;refine g [[1],[5,0,1,6]] ?_;refine WC.cond rfl (fun c7 => ?_) (fun c7 => ?_)
  · try simp only [zq] at c7
    have hkl : k < 251 := by omega
    refine g [[5],[6,0,1,6],[3,5,0,1,6]] ?_;have hkb : k * b ≤ 250 * 250 := Nat.mul_le_mul (by omega) (by omega);have hkz : (k : Int) * (b : Int) = ((k * b : Nat) : Int) := by simp
    refine WL.yd (Yd.mul rfl rfl (wr64 ⟨by (try dsimp only); omega, by (try dsimp only); omega⟩)) rfl ?_;refine WL.know 11 (nt (k * b)) rfl (by congr 1) ?_;refine WL.yd (Yd.rem rfl rfl (by (try dsimp only); omega) (by (try dsimp only); omega)) rfl (g [[4]] ?_);refine WC.cond rfl (fun c14 => ?_) (fun c14 => ?_)
    · try simp only [zq] at c14
      refine g [[1],[11,5,0,1,6]] ?_;refine WP.ret1 rfl rfl rfl (RV.tmp rfl) (fun w hI => ⟨by rw [ztR hkl hF (by omega)], hI.keep⟩)
    try simp only [zq] at c14
    refine g [[3],[1,0,1,6]] ?_;refine WL.yd (Yd.add rfl rfl (wr64 ⟨by (try dsimp only); omega, by (try dsimp only); omega⟩)) rfl (g [[2]] ?_);exact WP.againF (k + 1) ⟨by omega, fun j hj => by rcases Nat.lt_or_ge j k with h | h; exact hF j h; obtain rfl : j = k := (by omega); omega⟩ (by omega) ⟨rfl, rfl, rfl, trivial⟩ (fun _ h => nomatch h) (fun _ => List.nodup_nil)
  try simp only [zq] at c7
  obtain rfl : k = 251 := by omega
  refine g [[6]] ?_;refine WC.ofFr [] trivial (g [[5]] ?_);refine WP.ret1 rfl rfl rfl (RV.tmp rfl) (fun w hI => ⟨by rw [zsi hF]; rfl, hI.keep⟩)
theorem zpQ {l1 l2 : Bs} (h : l1.length = l2.length) (h2 : l1.take l1.length = l2.take l1.length) : l1 = l2 := by
  rw [List.take_length, List.take_of_length_le (by omega)] at h2; exact h2
theorem zpL {l1 l2 : Bs} {k : Nat} (h1 : k < l1.length) (h2 : k < l2.length) (h : l1.take k = l2.take k) (hg : gt l1 k = gt l2 k) : l1.take (k + 1) = l2.take (k + 1) := by
  have e1 : gt l1 k = l1[k] := by simp [gt, List.getD, h1]
  have e2 : gt l2 k = l2[k] := by simp [gt, List.getD, h2]
  rw [List.take_succ_eq_append_getElem h1, List.take_succ_eq_append_getElem h2, h, ← e1, ← e2, hg]
theorem zv8 (l1 l2 : Bs) (a1 a2 : Option Addr) (n1 n2 c1 c2 : Nat) (D : Imm) (hS1 : SlL D 1 (l1.map btC) a1 n1) (hS2 : SlL D 1 (l2.map btC) a2 n2) (hn : n1 ≤ 2 ^ 40) (w : World) (hH : Holds D w) : z8 Tryz.prog 58 [.slice a1 n1 c1, .slice a2 n2 c2] w (.bool (decide (l1 = l2))) := by
  unfold z8;obtain rfl : n1 = l1.length := hS1.len';obtain rfl : n2 = l2.length := hS2.len';refine en Tryz.func58 rfl Tryz.ntmps58 (Inv.start hH) (g [[1],[6,0,1],[8,4,0,1]] ?_);refine WC.cond rfl (fun c10 => ?_) (fun c10 => ?_)
  · try simp only [zq] at c10
    refine g [[1],[6,4,0,1]] ?_;refine WP.ret1 rfl rfl rfl (RV.tmp rfl) (fun w hI => ⟨zb (decide_eq_false (fun e => by subst e; simp at c10)).symm, hI.keep⟩)
  try simp only [zq] at c10
  have hll : l1.length = l2.length := by omega
  refine g [[4],[7,4,0,1]] ?_;refine WC.loopF (fun k : Nat => [(0, .slice a1 l1.length c1), (1, .slice a2 l2.length c2), (11, .slice a1 l1.length c1), (12, nt l1.length), (13, nt k)]) (fun k => k ≤ l1.length ∧ l1.take k = l2.take k) (fun k => l1.length - k) 0 ⟨Nat.zero_le _, rfl⟩ ⟨rfl, rfl, rfl, rfl, rfl, trivial⟩ ?_;rintro k ⟨hk, hF⟩;refine g [[1],[5,0,1,11,12,13]] ?_;refine WC.cond rfl (fun c14 => ?_) (fun c14 => ?_)
  · try simp only [zq] at c14
    have hkl : k < l1.length := by omega
    refine g [[5],[6,0,1,11,12,13],[0,5,0,1,11,12,13],[3008],[2]] ?_;refine WQ.q rfl (Yd.qt (Yd.ix rfl rfl (hS1.addr k (by omega)))) rfl (WQ.q rfl (Yd.qt (Yd.l1 rfl ((hS1.at k (by omega)).rd 0 rfl))) rfl (g [[2]] ?_));refine WQ.q rfl (Yd.qt (Yd.ix rfl rfl (hS2.addr k (by omega)))) rfl (WQ.q rfl (Yd.qt (Yd.l1 rfl ((hS2.at k (by omega)).rd 0 rfl))) rfl (g [[4]] ?_));refine WC.cond rfl (fun c24 => ?_) (fun c24 => ?_)
    · try simp only [zq] at c24
      refine g [[1],[10,0,1,11,12,13]] ?_;refine WP.ret1 rfl rfl rfl (RV.tmp rfl) (fun w hI => ⟨zb (decide_eq_false (fun e => by subst e; simp at c24)).symm, hI.keep⟩)
    try simp only [zq] at c24
    refine g [[3],[4,0,1,11,12,13]] ?_;exact WP.againF (k + 1) ⟨hkl, zpL hkl (by omega) hF (UInt8.toNat_inj.1 (by omega))⟩ (by omega) ⟨rfl, rfl, rfl, rfl, rfl, trivial⟩ (fun _ h => nomatch h) (fun _ => List.nodup_nil)
  try simp only [zq] at c14
  obtain rfl : k = l1.length := by omega
  refine g [[6]] ?_;refine WC.ofFr [] trivial (g [[5]] ?_);refine WP.ret1 rfl rfl rfl (RV.tmp rfl) (fun w hI => ⟨zb (decide_eq_true (zpQ hll hF)).symm, hI.keep⟩)
theorem zul (a b c d : Nat) : ∀ w, (Op.equalIn 10000 113 (.agg #[nt a, nt b]) (.agg #[nt c, nt d])).run Tryz.prog w = .ok (decide ((a, b) = (c, d))) w := by
  intro w
  have h1 : (Op.equalIn 10000 113 (.agg #[nt a, nt b]) (.agg #[nt c, nt d])).run Tryz.prog w = .ok (a == c && b == d) w := by
    simp [go_sem, Op.eqFields];by_cases h : a = c
    · subst h;by_cases h' : b = d
      · subst h'; simp
      rw [if_pos rfl, if_neg (by omega)]; simp [h']
    rw [if_neg (by omega)]; simp [h]
  have h2 : (a == c && b == d) = decide ((a, b) = (c, d)) := by
    rw [Bool.eq_iff_iff]; simp only [Bool.and_eq_true, beq_iff_eq, decide_eq_true_eq, Prod.mk.injEq]
  rw [h1, h2]
theorem zqc {h : Hors} (e : qn h = true) : wrH h = (zmX h, 0) := if_pos e
theorem zuQ {h : Hors} (e : qn h = false) : wrH h = ([], 1) := if_neg (by simp [e])
theorem zoG (h : Hors) (m : Sl) (D : Imm) (hR : Ky D h m) (w : World) (hH : Holds D w) : y6 Tryz.prog 6 [k3 h m] w D (fun v D' => ∃ a n c, v = .tuple #[.slice a n c, it (wrH h).2] ∧ SlL D' 1 ((wrH h).1.map btC) a n ∧ n ≤ c) := by
  unfold y6;refine enD Tryz.func6 rfl Tryz.ntmps6 (Inv.start hH) (g [[1],[1,0]] ?_);refine WL.so (SO.box rfl rfl) rfl (zw fun b1 hb1 => ?_);refine g [[1]] ?_;refine WL.so (SO.alloc ZvF.h rfl) rfl (zw fun b3 hb3 => ?_);refine g [[3],[1,3,2,1]] ?_;refine WL.deferA rfl (g [[3],[2,3,2,1]] ?_);refine WL.cl rfl (fun w hI => zqu h m D _ hR hI.imm) ?_;refine WL.part 5 rfl (fun g5 => ?_) (fun g5 => ?_)
  · refine WL.cl rfl (fun w hI => zmK _ _) (g [[3],[2,3,2,1]] ?_);refine WL.so (SO.makes (Enters.func Tryz.call42 rfl) (fun w hI => zuh h m (qs.1 g5) D hR w hI.imm)) rfl ?_;rintro _ D2 _ ⟨hX2, ⟨a2, n2, c2, rfl, hS2, hc2⟩, rfl⟩;refine g [[5]] ?_;refine WP.endDA [_, _] [_, _] rfl rfl CaF.h (fun w hI => zmv b3 w) rfl zV (fun w hI => ⟨_, D2, rfl, hI.keep, hI.imm, hX2, a2, n2, c2, by rw [zqc g5]; rfl, by rw [zqc g5]; exact hS2, hc2⟩)
  refine WL.nf rfl (fun w hI => zmw _ _) (g [[1]] ?_);refine WP.panicDA (k := 0) [_, _] [_, _] rfl CaF.h rfl (fun w hI => qa b3 _ 0 _ w (hI.own _ _ (List.mem_of_getElem? (i := 0) rfl))) rfl zV (fun w hI => ⟨_, D, rfl, hI.keep, hI.imm, DExt.refl _ _, none, 0, 0, by rw [zuQ g5]; rfl, by rw [zuQ g5]; exact SlL.nil _ _, Nat.le_refl _⟩)
theorem SA24 : zj Tryz.prog 24 [.int .i64 0, .slice none 0 0] [(0, 1), (1, 1)] := ⟨⟨_, Tryz.zeroValue24, rfl⟩, _, Tryz.underlying24, fun w => by simp [Tryz.sizeOf3, Tryz.sizeOf22]⟩
abbrev zdt := SaF.mk SA24
attribute [instance] zdt
theorem zyv : zj Tryz.prog 111 [.int .i64 0, .int .i64 0, .int .i64 0, .int .i64 0] [(0, 1), (1, 1), (2, 2)] := ⟨⟨_, Tryz.zeroValue111, rfl⟩, _, Tryz.underlying111, fun w => by simp [Tryz.sizeOf3, Tryz.sizeOf81]⟩
abbrev zwC := SaF.mk zyv
attribute [instance] zwC
theorem zp1 : ∀ (l : Bs) (n many : Nat) (out r : List Nat), (many = 0 → n = 0) → (many ≤ 1 → n ≤ 124) → (many ≤ 2 → n ≤ 15624) → (∀ x ∈ out, x ≤ 1953124) → zmD n many out l = some r → ∀ x ∈ r, x ≤ 1953124
  | [], n, many, out, r, _, _, _, ho, h => by
    rw [zmD] at h;split at h
    · cases h; exact ho
    cases h
  | x :: l, n, many, out, r, h0, h1, h2, ho, h => by
    rw [zmD] at h;split at h
    · have hx := Nat.mod_lt x.toNat (show 125 > 0 by omega);split at h
      · refine zp1 l 0 0 _ r (fun _ => rfl) (fun _ => Nat.zero_le _) (fun _ => Nat.zero_le _) (fun y hy => ?_) h;rcases List.mem_append.1 hy with hy | hy
        · exact ho y hy
        rw [List.mem_singleton] at hy; omega
      exact zp1 l _ _ out r (fun e => by omega) (fun e => by omega) (fun e => by omega) ho h
    cases h
theorem zoB : ∀ (N : Nat) (l : List Nat), l.length = 4 * N → (zmI l).length = N
  | 0, [], _ => rfl
  | N + 1, a :: b :: c :: d :: l, h => by rw [zmI, List.length_cons, zoB N l (by simp at h; omega)]
  | N + 1, [], h => by simp at h
  | N + 1, [_], h => by simp at h; omega
  | N + 1, [_, _], h => by simp at h; omega
  | N + 1, [_, _, _], h => by simp at h; omega
theorem zpx : ∀ (k : Nat) (l : List Nat), 4 * k + 3 < l.length → gt (zmI l) k = ⟨(gt l (4 * k) : Nat), (gt l (4 * k + 1) : Nat), ⟨(gt l (4 * k + 2) : Nat), ((gt l (4 * k + 2) : Nat) : Int) + (gt l (4 * k + 3) : Nat)⟩⟩
  | 0, a :: b :: c :: d :: l, _ => rfl
  | k + 1, a :: b :: c :: d :: l, h => by
    have ih := zpx k l (by simp at h; omega)
    have e : ∀ j, gt (a :: b :: c :: d :: l) (4 * (k + 1) + j) = gt l (4 * k + j) := fun j => by
      rw [show 4 * (k + 1) + j = (4 * k + j) + 1 + 1 + 1 + 1 by omega]; rfl
    have e0 := e 0; simp only [Nat.add_zero] at e0;rw [e 1, e 2, e 3, e0, ← ih];rfl
  | k, [], h => by simp at h
  | k, [_], h => by simp at h
  | k, [_, _], h => by simp at h; omega
  | k, [_, _, _], h => by simp at h; omega
theorem YB {α : Type} [Inhabited α] (l : List α) (i j : Nat) : gt (l.drop j) i = gt l (j + i) := by simp [gt, List.getD]
section
variable {b : Bs}
include b
theorem znr (h : zmp b ≠ 0) : znb b = (zo2, zmp b) := if_pos h
theorem znA (h : zmp b = 0) (h2 : zmB b ≠ kd (js b)) : znb b = (zo2, 10) := by unfold znb; rw [if_neg (by omega), if_pos h2]
theorem znq (h : zmp b = 0) (h2 : zmB b = kd (js b)) (h3 : zmD 0 0 [] (js b) = none) : znb b = (zo2, 8) := by
  unfold znb; rw [if_neg (by omega), if_neg (by simp [h2]), h3]
section
variable {l : List Nat} (h : zmp b = 0) (h2 : zmB b = kd (js b)) (h3 : zmD 0 0 [] (js b) = some l)
include l h h2 h3
theorem znp (h4 : ¬ (2 ≤ l.length ∧ l.length % 4 = 2)) : znb b = (zo2, 8) := by
  unfold znb; rw [if_neg (by omega), if_neg (by simp [h2]), h3]; simp only; rw [if_neg h4]
theorem znJ (h4 : 2 ≤ l.length ∧ l.length % 4 = 2) (h5 : qn (znz l) = true → zmX (znz l) ≠ b) : znb b = (zo2, 8) := by
  unfold znb; rw [if_neg (by omega), if_neg (by simp [h2]), h3]; simp only; rw [if_pos h4, if_neg (fun h => h5 h.1 h.2)]
theorem zqD (h4 : 2 ≤ l.length ∧ l.length % 4 = 2) (h5 : qn (znz l) = true) (h6 : zmX (znz l) = b) : znb b = (znz l, 0) := by
  unfold znb; rw [if_neg (by omega), if_neg (by simp [h2]), h3]; simp only; rw [if_pos h4, if_pos ⟨h5, h6⟩]
end
end
theorem zP {α : Type} [Inhabited α] {l : List α} {k : Nat} (h : k < l.length) : l.take (k + 1) = l.take k ++ [gt l k] := by
  have e : gt l k = l[k] := by simp [gt, List.getD, h]
  rw [List.take_succ_eq_append_getElem h, e]
theorem zpk {h : Hors} (ok : zmV h) : (k2 h).length ≤ 60 := zup h ▸ zrD ok _
theorem zq8 {b : Bs} (h : zmp b = 0) : (zmB b).1 < 251 ∧ (zmB b).2 < 251 := by
  obtain ⟨h1, h2, h3⟩ := zno h
  have key : ∀ i, i < b.length → (gt b i).toNat < 251 := fun i hi => by
    have := List.any_eq_false.1 h3 _ (k5 hi);unfold big at this; rw [decide_eq_true_eq] at this; omega
  exact ⟨key (b.length - 2) (by omega), key (b.length - 1) (by omega)⟩
theorem zqj {b : Bs} (h : zmp b = 0) : (js b).length = b.length - 2 := by unfold js; simp
theorem zpa (l : Bs) (a : Option Addr) (n c : Nat) (D : Imm) (hS : SlL D 1 (l.map btC) a n) (hn : n ≤ 2 ^ 19) (hc : n ≤ c) (w : World) (hH : Holds D w) : y6 Tryz.prog 11 [.slice a n c] w D (fun v D' => ∃ m, v = .tuple #[k3 (znb l).1 m, it (znb l).2] ∧ Ky D' (znb l).1 m) := by
  unfold y6;obtain rfl : n = l.length := hS.len';refine enD Tryz.func11 rfl Tryz.ntmps11 (Inv.start hH) (g [[1],[1,0]] ?_);refine WL.so (SO.alloc ZvF.h rfl) rfl (zw fun b2 hb2 => ?_);refine WL.so (SO.alloc ZvF.h rfl) rfl (zw fun b3 hb3 => ?_);refine g [[3],[1,3,2,0]] ?_;refine WL.deferA rfl (g [[3],[2,3,2,0]] ?_);rcases h0 : decide (zmp l = 0) with _ | _
  · refine WL.nf rfl (fun w hI => zs8 l a l.length c D hS (by omega) hc (by simpa using h0) _ hI.imm) (g [[1]] ?_);refine WP.panicDA (k := 0) [_, _] [_, _] rfl CaF.h rfl (fun w hI => qa b3 _ 0 _ w (hI.own _ _ (List.mem_of_getElem? (i := 0) rfl))) rfl zV (fun w hI => by first | exact ⟨_, D, rfl, hI.keep, hI.imm, DExt.refl _ _, ⟨none, 0, 0⟩, by rw [znr (by simpa using h0)]; rfl, by rw [znr (by simpa using h0)]; exact ⟨SlL.nil _ _, Nat.zero_le _⟩⟩ | exact ⟨_, D, rfl, hI.keep, hI.imm, DExt.refl _ _, ⟨none, 0, 0⟩, by rw [znq h0' hts h20]; rfl, by rw [znq h0' hts h20]; exact ⟨SlL.nil _ _, Nat.zero_le _⟩⟩)
  skip;refine WL.cl rfl (fun w hI => x4 l a l.length c D hS (by omega) hc (by simpa using h0) _ hI.imm) (g [[3]] ?_);refine WL.so (SO.alloc ZvF.h rfl) rfl (zw fun b5 hb5 => ?_);refine g [[5],[0,4,5,3,2,0]] ?_;refine WC.drawD _ (pz [1,3,4,7,8]) zk zk zX zHl ?_;have h0' : zmp l = 0 := by simpa using h0
  have ho2 := zno h0';have hbl := zqj h0';refine g [[2]] ?_;refine WA.so rfl (SO.callP CaF.h rfl (fun w hI => znK (js l) a (l.length - 2) c _ (zny hS) (by omega) _ hI.imm)) rfl (zs ⟨zHl, ?_⟩);refine WA.yd rfl (Yd.eqS EgF.h (zul _ _ _ _) rfl rfl) rfl ?_;refine WA.part 17 rfl (fun g17 => ?_) (fun g17 => ?_)
  · try simp only [zq] at g17
    refine WA.so rfl (SO.call (Enters.func CaF.h rfl) (fun w hI => zmK _ _)) rfl (zs ⟨zHl, ?_⟩);refine g [[3],[1,4,3,2,0]] ?_;have hts : zmB l = kd (js l) := g17;refine g [[1]] ?_;rcases h20 : zmD 0 0 [] (js l) with _ | out
    · refine WL.nf rfl (fun w hI => (zpy (js l) a (l.length - 2) c D (zny hS) (by omega) _ hI.imm).no h20) (g [[1]] ?_);refine WP.panicDA (k := 1) [_, _] [_, _] rfl CaF.h rfl (fun w hI => qa b3 _ 0 _ w (hI.own _ _ (List.mem_of_getElem? (i := 1) rfl))) rfl zV (fun w hI => by first | exact ⟨_, D, rfl, hI.keep, hI.imm, DExt.refl _ _, ⟨none, 0, 0⟩, by rw [znr (by simpa using h0)]; rfl, by rw [znr (by simpa using h0)]; exact ⟨SlL.nil _ _, Nat.zero_le _⟩⟩ | exact ⟨_, D, rfl, hI.keep, hI.imm, DExt.refl _ _, ⟨none, 0, 0⟩, by rw [znq h0' hts h20]; rfl, by rw [znq h0' hts h20]; exact ⟨SlL.nil _ _, Nat.zero_le _⟩⟩)
    skip;refine WL.so (SO.makes (Enters.func Tryz.call57 rfl) (fun w hI => (zpy (js l) a (l.length - 2) c D (zny hS) (by omega) _ hI.imm).ok h20)) rfl ?_;rintro _ D1 _ ⟨hX1, ⟨a1, n1, c1, rfl, hS1, hol⟩, rfl⟩;refine g [[4],[1,6,3,2,0]] ?_;obtain rfl : n1 = out.length := hS1.len';refine g [[4]] ?_;refine WL.part 24 rfl (fun g24 => ?_) (fun g24 => ?_)
    · try simp only [zq] at g24
      refine g [[2]] ?_;refine WL.ydg rfl (Yd.rem rfl rfl (by (try dsimp only); omega) (by (try dsimp only); omega)) rfl (g [[2]] ?_);refine WL.part 29 rfl (fun g29 => ?_) (fun g29 => ?_)
      · try simp only [zq] at g29
        refine WL.cl rfl (fun w hI => zmK _ _) (g [[3],[1,6,3,2,0]] ?_);have h4 : 2 ≤ out.length ∧ out.length % 4 = 2 := by omega
        obtain ⟨N, hN⟩ : ∃ N, out.length = 2 + 4 * N := ⟨(out.length - 2) / 4, by omega⟩;have hML := zoB N (out.drop 2) (by simp; omega);have hnl : ∀ i, i < out.length → gt out i ≤ 1953124 := fun i hi => zp1 _ _ _ _ _ (fun _ => rfl) (fun _ => Nat.zero_le _) (fun _ => Nat.zero_le _) (by simp) h20 _ (k5 hi);refine g [[1]] ?_;refine WL.yd (Yd.indexS UnF.h SzF.h rfl rfl (by (try dsimp only); omega) (by (try dsimp only); omega) (hS1.addr 0 (by omega))) rfl ?_;refine WL.yd (Yd.l1 rfl ((hS1.at (0) (by omega)).rd 0 rfl)) rfl (g [[1]] ?_);refine WL.so (SO.alloc ZvF.h rfl) rfl (zw fun b7 hb7 => ?_);refine g [[5],[5,7,6,3,2,0]] ?_;refine WC.loopT [] (fun y : Nat × Option Ow => [(0, .slice a l.length c), (2, pt b2), (3, pt b3), (6, .slice a1 out.length c1), (7, pt b7), (8, nt (2 + 4 * y.1))]) (fun y => (b7, .cells (List.toArray [nt (gt out 0), owV y.2 y.1]) 24 (0, 0)) :: owH y.2 111 (((zmI (out.drop 2)).take y.1).flatMap mvC) [(b5, .cells (List.toArray [nt (zmB l).1, nt (zmB l).2]) 113 (0, 0)), (b3, .cells (List.toArray [it 0]) 28 (0, 0)), (b2, .cells (List.toArray [it 0, .slice none 0 0]) 24 (0, 0))]) (fun y => y.1 ≤ N ∧ owP w y.2 y.1 4) (fun y => N - y.1) (0, none) ⟨Nat.zero_le _, rfl⟩ rfl ⟨rfl, rfl, rfl, rfl, rfl, rfl, trivial⟩ ?_;rintro ⟨k, o⟩ ⟨hk, ho⟩;dsimp only at hk ho;refine g [[2],[7,0,2,3,6,7,8]] ?_;refine WC.cond rfl (fun c38 => ?_) (fun c38 => ?_)
        · try simp only [zq] at c38
          have hkN : k < N := by omega
          have hgm := zpx k (out.drop 2) (by simp; omega);simp only [YB] at hgm;refine g [[4],[0,0,2,3,6,7,8]] ?_;refine WC.drawH [] zk (fun _ hI => Inv.nil hI) (g [[1000],[1002],[1003]] ?_);refine WH.yd (i := 4) zk zX rfl (Yd.indexS UnF.h SzF.h rfl rfl (by (try dsimp only); omega) (by (try dsimp only); omega) (hS1.addr 0 (by omega))) rfl ?_;refine WH.yd (i := 5) zk zX rfl (Yd.l1 rfl ((hS1.at (2 + 4 * k) (by omega)).rd 0 rfl)) rfl (g [[1006],[1007]] ?_);refine WH.yd (i := 8) zk zX rfl (Yd.add rfl rfl (wr64 ⟨by (try dsimp only); omega, by (try dsimp only); omega⟩)) rfl ?_;refine WH.know 49 (nt (2 + 4 * k + 1)) rfl (by congr 1) ?_;refine WH.yd (i := 9) zk zX rfl (Yd.indexS UnF.h SzF.h rfl rfl (by (try dsimp only); omega) (by (try dsimp only); omega) (hS1.addr 0 (by omega))) rfl ?_;refine WH.yd (i := 10) zk zX rfl (Yd.l1 rfl ((hS1.at (2 + 4 * k + 1) (by omega)).rd 0 rfl)) rfl (g [[1011],[1012]] ?_);refine WH.yd (i := 13) zk zX rfl (Yd.add rfl rfl (wr64 ⟨by (try dsimp only); omega, by (try dsimp only); omega⟩)) rfl ?_;refine WH.know 54 (nt (2 + 4 * k + 2)) rfl (by congr 1) ?_;refine WH.yd (i := 14) zk zX rfl (Yd.indexS UnF.h SzF.h rfl rfl (by (try dsimp only); omega) (by (try dsimp only); omega) (hS1.addr 0 (by omega))) rfl ?_;refine WH.yd (i := 15) zk zX rfl (Yd.l1 rfl ((hS1.at (2 + 4 * k + 2) (by omega)).rd 0 rfl)) rfl (g [[1016],[1017]] ?_);refine WH.yd (i := 18) zk zX rfl (Yd.add rfl rfl (wr64 ⟨by (try dsimp only); omega, by (try dsimp only); omega⟩)) rfl ?_;refine WH.know 59 (nt (2 + 4 * k + 2)) rfl (by congr 1) ?_;refine WH.yd (i := 19) zk zX rfl (Yd.indexS UnF.h SzF.h rfl rfl (by (try dsimp only); omega) (by (try dsimp only); omega) (hS1.addr 0 (by omega))) rfl ?_;refine WH.yd (i := 20) zk zX rfl (Yd.l1 rfl ((hS1.at (2 + 4 * k + 2) (by omega)).rd 0 rfl)) rfl (g [[1021],[1022]] ?_);refine WH.yd (i := 23) zk zX rfl (Yd.add rfl rfl (wr64 ⟨by (try dsimp only); omega, by (try dsimp only); omega⟩)) rfl ?_;refine WH.know 64 (nt (2 + 4 * k + 3)) rfl (by congr 1) ?_;refine WH.yd (i := 24) zk zX rfl (Yd.indexS UnF.h SzF.h rfl rfl (by (try dsimp only); omega) (by (try dsimp only); omega) (hS1.addr 0 (by omega))) rfl ?_;refine WH.yd (i := 25) zk zX rfl (Yd.l1 rfl ((hS1.at (2 + 4 * k + 3) (by omega)).rd 0 rfl)) rfl ?_;have hq2 := hnl (2 + 4 * k + 2) (by omega);have hq3 := hnl (2 + 4 * k + 3) (by omega);refine WH.yd (i := 26) zk zX rfl (Yd.add rfl rfl (wr64 ⟨by (try dsimp only); omega, by (try dsimp only); omega⟩)) rfl (g [[1027],[1028]] ?_);refine WH.two (i := 1) (j := 29) zk ?_ ?_
          · refine WHo.yd rfl (Yd.l1 rfl (Rd.own (k := 0) rfl rfl)) rfl ?_;refine WH.one (i := 29) zk (WHo.so rfl (SO.buildSlice UnF.h SzF.h ZvF.h rfl rfl rfl rfl (cs := [_, _, _, _]) rfl) rfl ?_);rintro _ _ _ ⟨b70, hb70, rfl, rfl, rfl⟩;refine ⟨(fun _ hI => Inv.nil hI), ?_⟩;refine WH.one (i := 30) zk (WHo.so rfl (SO.appendOw (o := o) (len := k) (n := 1) (xs := (((zmI (out.drop 2)).take k).flatMap mvC)) (size := 4) [_] [_] [_, _, _] rfl rfl Tryz.underlying22 Tryz.sizeOf111 Tryz.typeInfo111 Tryz.zeroValue111 rfl rfl rfl rfl ⟨rfl, .inr ⟨_, _, _, rfl, RdN.own (k := 0) (n := 4) rfl rfl⟩⟩ (za rfl) ho (by rw [zr zpZ, List.length_take]; omega) (by omega) (by show (2 * (_ + _) + 1000) * 32 ≤ 2 ^ 48; omega) (by omega)) rfl ?_);rintro _ _ _ ⟨u1, hu1, rfl, rfl, rfl⟩;refine ⟨(fun _ hI => Inv.nil hI), ?_⟩;refine g [[1031]] ?_;refine WH.one (i := 32) zk (WHo.so rfl (SO.store 0 rfl SzF.h rfl rfl rfl rfl (zqb rfl) (za rfl)) rfl ?_);rintro _ _ _ ⟨rfl, rfl, rfl⟩;refine ⟨(fun _ hI => Inv.nil hI), ?_⟩;refine WH.nil zk (g [[2],[2,0,2,3,6,7,8]] ?_);refine WL.yd (Yd.add rfl rfl (wr64 ⟨by (try dsimp only); omega, by (try dsimp only); omega⟩)) rfl (g [[2]] ?_);exact WP.againT (k + 1, some u1) ⟨hkN, by simpa using hu1⟩ (by dsimp only; omega) [] _ rfl (by show _ = (b7, .cells (List.toArray [nt (gt out 0), owV (some u1) (k + 1)]) 24 (0, 0)) :: owH (some u1) _ (((zmI (out.drop 2)).take (k + 1)).flatMap mvC) _; rw [zP (show k < (zmI (out.drop 2)).length by omega), List.flatMap_append, hgm] <;> rfl) ⟨rfl, rfl, rfl, rfl, rfl, by show some (it _) = some (nt (2 + 4 * (k + 1))); first | rfl | (congr 2; omega), trivial⟩
          refine WHo.so rfl (SO.buildSlice UnF.h SzF.h ZvF.h rfl rfl rfl rfl (cs := [_, _, _, _]) rfl) rfl ?_;rintro _ _ _ ⟨b70, hb70, rfl, rfl, rfl⟩;refine ⟨(fun _ hI => Inv.nil hI), ?_⟩;refine WH.one (i := 1) zk (WHo.yd rfl (Yd.l1 rfl (Rd.own (k := 1) rfl rfl)) rfl ?_);refine WH.one (i := 30) zk (WHo.so rfl (SO.appendOw (o := o) (len := k) (n := 1) (xs := (((zmI (out.drop 2)).take k).flatMap mvC)) (size := 4) [_] [_] [_, _, _] rfl rfl Tryz.underlying22 Tryz.sizeOf111 Tryz.typeInfo111 Tryz.zeroValue111 rfl rfl rfl rfl ⟨rfl, .inr ⟨_, _, _, rfl, RdN.own (k := 0) (n := 4) rfl rfl⟩⟩ (za rfl) ho (by rw [zr zpZ, List.length_take]; omega) (by omega) (by show (2 * (_ + _) + 1000) * 32 ≤ 2 ^ 48; omega) (by omega)) rfl ?_);rintro _ _ _ ⟨u1, hu1, rfl, rfl, rfl⟩;refine ⟨(fun _ hI => Inv.nil hI), ?_⟩;refine g [[1031]] ?_;refine WH.one (i := 32) zk (WHo.so rfl (SO.store 0 rfl SzF.h rfl rfl rfl rfl (zqb rfl) (za rfl)) rfl ?_);rintro _ _ _ ⟨rfl, rfl, rfl⟩;refine ⟨(fun _ hI => Inv.nil hI), ?_⟩;refine WH.nil zk (g [[2],[2,0,2,3,6,7,8]] ?_);refine WL.yd (Yd.add rfl rfl (wr64 ⟨by (try dsimp only); omega, by (try dsimp only); omega⟩)) rfl (g [[2]] ?_);exact WP.againT (k + 1, some u1) ⟨hkN, by simpa using hu1⟩ (by dsimp only; omega) [] _ rfl (by show _ = (b7, .cells (List.toArray [nt (gt out 0), owV (some u1) (k + 1)]) 24 (0, 0)) :: owH (some u1) _ (((zmI (out.drop 2)).take (k + 1)).flatMap mvC) _; rw [zP (show k < (zmI (out.drop 2)).length by omega), List.flatMap_append, hgm] <;> rfl) ⟨rfl, rfl, rfl, rfl, rfl, by show some (it _) = some (nt (2 + 4 * (k + 1))); first | rfl | (congr 2; omega), trivial⟩
        try simp only [zq] at c38
        refine g [[6],[1,0,2,3,7]] ?_;obtain rfl : k = N := by omega
        rw [List.take_of_length_le (by omega)];refine WL.freezeOw (f := mvC) (m := 4) zpZ [_] [_, _, _] o 111 (zmI (out.drop 2)) rfl (hML.symm ▸ ho) rfl (fun D3 hX3 hS3 => ?_);rw [xg (wt ho), show nt (gt out 0) = it (znz out).pace from rfl];have hR : Ky D3 (znz out) ⟨owAt o, k, owCp o k⟩ := ⟨hML ▸ hS3, by show k ≤ _; omega⟩;refine g [[1]] ?_;refine WL.cl rfl (fun w hI => zqu (znz out) ⟨owAt o, k, owCp o k⟩ D3 w hR hI.imm) (g [[1]] ?_);refine WL.part 75 rfl (fun g75 => ?_) (fun g75 => ?_)
        · refine g [[1]] ?_;refine WL.sog rfl (SO.makes (Enters.func Tryz.call42 rfl) (fun w hI => zuh (znz out) ⟨owAt o, k, owCp o k⟩ (qs.1 g75) D3 hR w hI.imm)) rfl ?_;rintro _ D4 _ ⟨hX4, ⟨a4, n4, c4, rfl, hS4, hc4⟩, rfl⟩;refine g [[1]] ?_;refine WL.sog rfl (SO.callP CaF.h rfl (fun w hI => zv8 (zmX (znz out)) l a4 a n4 l.length c4 c D4 hS4 (hS.ext ((hX1.trans hX3 (Nat.le_refl _)).trans hX4 (Nat.le_refl _))) (by have := hS4.len'; have := zpk (qs.1 g75); have := zpi (znz out); omega) _ hI.imm)) rfl (zs (g [[1]] ?_));refine WL.part 80 rfl (fun g80 => ?_) (fun g80 => ?_)
          · try simp only [zq] at g80
            refine WL.cl rfl (fun w hI => zmK _ _) (g [[3],[7,2,3,7]] ?_);refine WP.endDA [_, _] [_, _] rfl rfl CaF.h (fun w hI => zmv b3 w) rfl zV (fun w hI => ⟨_, D4, rfl, hI.keep, hI.imm, (hX1.trans hX3 (Nat.le_refl _)).trans hX4 (Nat.le_refl _), ⟨owAt o, k, owCp o k⟩, by rw [zqD h0' hts h20 h4 g75 (by simpa using g80)]; rfl, by rw [zqD h0' hts h20 h4 g75 (by simpa using g80)]; exact hR.ext hX4⟩)
          try simp only [zq] at g80
          refine WL.nf rfl (fun w hI => zmw _ _) (g [[1]] ?_);refine WP.panicDA (k := 2) [_, _] [_, _] rfl CaF.h rfl (fun w hI => qa b3 _ 0 _ w (hI.own _ _ (List.mem_of_getElem? (i := 2) rfl))) rfl zV (fun w hI => ⟨_, _, rfl, hI.keep, hI.imm, ((hX1.trans hX3 (Nat.le_refl _)).trans hX4 (Nat.le_refl _)), ⟨none, 0, 0⟩, by rw [znJ h0' hts h20 h4 (fun _ => by simpa using g80)]; rfl, by rw [znJ h0' hts h20 h4 (fun _ => by simpa using g80)]; exact ⟨SlL.nil _ _, Nat.zero_le _⟩⟩)
        refine g [[5]] ?_;refine WL.nf rfl (fun w hI => zmw _ _) (g [[1]] ?_);refine WP.panicDA (k := 2) [_, _] [_, _] rfl CaF.h rfl (fun w hI => qa b3 _ 0 _ w (hI.own _ _ (List.mem_of_getElem? (i := 2) rfl))) rfl zV (fun w hI => ⟨_, _, rfl, hI.keep, hI.imm, (hX1.trans hX3 (Nat.le_refl _)), ⟨none, 0, 0⟩, by rw [znJ h0' hts h20 h4 (fun e => by rw [g75] at e; cases e)]; rfl, by rw [znJ h0' hts h20 h4 (fun e => by rw [g75] at e; cases e)]; exact ⟨SlL.nil _ _, Nat.zero_le _⟩⟩)
      try simp only [zq] at g29
      refine WL.nf rfl (fun w hI => zmw _ _) (g [[1]] ?_);refine WP.panicDA (k := 1) [_, _] [_, _] rfl CaF.h rfl (fun w hI => qa b3 _ 0 _ w (hI.own _ _ (List.mem_of_getElem? (i := 1) rfl))) rfl zV (fun w hI => ⟨_, _, rfl, hI.keep, hI.imm, (hX1), ⟨none, 0, 0⟩, by rw [znp h0' hts h20 (fun e => by omega)]; rfl, by rw [znp h0' hts h20 (fun e => by omega)]; exact ⟨SlL.nil _ _, Nat.zero_le _⟩⟩)
    try simp only [zq] at g24
    refine g [[5]] ?_;refine WL.nf rfl (fun w hI => zmw _ _) (g [[1]] ?_);refine WP.panicDA (k := 1) [_, _] [_, _] rfl CaF.h rfl (fun w hI => qa b3 _ 0 _ w (hI.own _ _ (List.mem_of_getElem? (i := 1) rfl))) rfl zV (fun w hI => ⟨_, _, rfl, hI.keep, hI.imm, (hX1), ⟨none, 0, 0⟩, by rw [znp h0' hts h20 (fun e => by omega)]; rfl, by rw [znp h0' hts h20 (fun e => by omega)]; exact ⟨SlL.nil _ _, Nat.zero_le _⟩⟩)
  try simp only [zq] at g17
  refine WA.no rfl (SO.fail (Enters.func CaF.h rfl) (fun w hI => zmw _ _) (g [[1]] ?_));refine WP.panicDA (k := 1) [_, _] [_, _] rfl CaF.h rfl (fun w hI => qa b3 _ 0 _ w (hI.own _ _ (List.mem_of_getElem? (i := 1) rfl))) rfl zV (fun w hI => ⟨_, _, rfl, hI.keep, hI.imm, (DExt.refl _ _), ⟨none, 0, 0⟩, by rw [znA h0' g17]; rfl, by rw [znA h0' g17]; exact ⟨SlL.nil _ _, Nat.zero_le _⟩⟩)
theorem zyx : zj Tryz.prog 118 [.int .i64 0, .int .i64 0] [(0, 2)] := ⟨⟨_, Tryz.zeroValue118, rfl⟩, _, Tryz.underlying118, fun w => by simp [Tryz.sizeOf113]⟩
abbrev zwE := SaF.mk zyx
attribute [instance] zwE
theorem zyy : zj Tryz.prog 120 [.int .i64 0, .int .i64 0] [(0, 2)] := ⟨⟨_, Tryz.zeroValue120, rfl⟩, _, Tryz.underlying120, fun w => by simp [Tryz.sizeOf118]⟩
abbrev zwF := SaF.mk zyy
attribute [instance] zwF
theorem xz (cs vs : List Value) (h : vs.length = cs.length) : splice cs 0 vs = vs ++ [] := by simp [splice, h]
section
variable {b : Bs}
include b
theorem znY (h : zmp b ≠ 0) : zmL b = ([], zmp b) := if_pos h
section
variable (h : zmp b = 0)
include h
theorem znZ (h2 : zmB b = kd (js b)) : zmL b = ([], 4) := by unfold zmL; rw [if_neg (by omega), if_pos h2]
section
variable (h2 : zmB b ≠ kd (js b))
include h2
theorem zoh (h3 : (qc b).2 = 0) : zmL b = (b.set (b.length - 2) (UInt8.ofNat (kd (js b)).1), 0) := by
  unfold zmL; rw [if_neg (by omega), if_neg h2, if_pos h3]
theorem zoi (h3 : (qc b).2 ≠ 0) (h4 : (qc b).1 = 0) : zmL b = (b.set (b.length - 1) (UInt8.ofNat (kd (js b)).2), 0) := by
  unfold zmL; rw [if_neg (by omega), if_neg h2, if_neg h3, if_pos h4]
theorem znX (h3 : (qc b).2 ≠ 0) (h4 : (qc b).1 ≠ 0) (h5 : 1 ≤ quoN (qc b).2 (qc b).1 ∧ quoN (qc b).2 (qc b).1 ≤ b.length - 2) :
    zmL b = (b.set (quoN (qc b).2 (qc b).1 - 1) (UInt8.ofNat (((b.getD (quoN (qc b).2 (qc b).1 - 1) 0).toNat + (qc b).1) % 251)), 0) := by
  unfold zmL; rw [if_neg (by omega), if_neg h2, if_neg h3, if_neg h4, if_pos h5]
theorem zmZ (h3 : (qc b).2 ≠ 0) (h4 : (qc b).1 ≠ 0) (h5 : ¬ (1 ≤ quoN (qc b).2 (qc b).1 ∧ quoN (qc b).2 (qc b).1 ≤ b.length - 2)) : zmL b = ([], 11) := by
  unfold zmL; rw [if_neg (by omega), if_neg h2, if_neg h3, if_neg h4, if_neg h5]
end
theorem zvK : (qc b).1 < 251 ∧ (qc b).2 < 251 := zsG _ _ _ _ (zq8 h).1 (zq8 h).2
end
end
theorem zxd (l : Bs) (a : Option Addr) (n c : Nat) (D : Imm) (hS : SlL D 1 (l.map btC) a n) (hn : n ≤ 2 ^ 19) (hc : n ≤ c) (w : World) (hH : Holds D w) : News Tryz.prog 9 [.slice a n c] w D (fun v D' h' => D = D' ∧ (((zmL l).2 = 0 ∧ ∃ b, v = .tuple #[.slice (some ⟨b, 0, none⟩) (zmL l).1.length (zmL l).1.length, it 0] ∧ h' = [(b, .cells ((zmL l).1.flatMap btC ++ []).toArray 5 (0, 0))] ∧ w.heap.size ≤ b) ∨ ((zmL l).2 ≠ 0 ∧ (zmL l).1 = [] ∧ v = .tuple #[.slice none 0 0, it (zmL l).2] ∧ h' = []))) := by
  unfold News;obtain rfl : n = l.length := hS.len';refine enD Tryz.func9 rfl Tryz.ntmps9 (Inv.start hH) (g [[1],[2,0]] ?_);refine WL.so (SO.alloc ZvF.h rfl) rfl (zw fun b3 hb3 => ?_);refine g [[3],[1,3,2,0]] ?_;refine WL.deferA rfl (g [[3],[2,3,2,0]] ?_);rcases h0 : decide (zmp l = 0) with _ | _
  · refine WL.nf rfl (fun w hI => zs8 l a l.length c D hS (by omega) hc (by simpa using h0) _ hI.imm) (g [[1]] ?_);refine WP.panicDA (k := 0) [_, _] [_, _] rfl CaF.h rfl (fun w hI => qa b3 _ 0 _ w (hI.own _ _ (List.mem_of_getElem? (i := 0) rfl))) rfl zV (fun w hI => ⟨_, _, [], rfl, DExt.refl _ _, Inv.nil hI, rfl, .inr ⟨by rw [znY (by simpa using h0)]; first | decide | (simpa using h0), by rw [znY (by simpa using h0)], by rw [znY (by simpa using h0)]; rfl, rfl⟩⟩)
  skip;refine WL.cl rfl (fun w hI => x4 l a l.length c D hS (by omega) hc (by simpa using h0) _ hI.imm) (g [[3]] ?_);refine WL.so (SO.alloc ZvF.h rfl) rfl (zw fun b5 hb5 => ?_);refine g [[5],[0,4,5,3,2,0]] ?_;refine WC.drawD _ (pz [1,3,4,7,8]) zk zk zX zHl ?_;have h0' : zmp l = 0 := by simpa using h0
  have ho2 := zno h0';have hbl := zqj h0';have htl := zq8 h0';have hlk := zvK h0';have hsl := zq7 (js l) 0 0 0 (by decide) (by decide);have hs1 : (kd (js l)).1 < 251 := hsl.1;have hs2 : (kd (js l)).2 < 251 := hsl.2;refine g [[2]] ?_;refine WA.so rfl (SO.callP CaF.h rfl (fun w hI => znK (js l) a (l.length - 2) c _ (zny hS) (by omega) _ hI.imm)) rfl (zs ⟨zHl, ?_⟩);refine WA.yd rfl (Yd.neS EgF.h (zul _ _ _ _) rfl rfl) rfl ?_;refine WA.part 19 rfl (fun g19 => ?_) (fun g19 => ?_)
  · try simp only [zq] at g19
    refine WA.so rfl (SO.call (Enters.func CaF.h rfl) (fun w hI => zmK _ _)) rfl (zs ⟨zHl, ?_⟩);refine g [[3],[1,4,5,3,2,0]] ?_;have hts : zmB l ≠ kd (js l) := g19;refine g [[3]] ?_;refine WL.so (SO.alloc ZvF.h rfl) rfl (zw fun b6 hb6 => ?_);refine g [[4],[3,6,4,3,2,0]] ?_;refine WL.so (SO.altersF (own := [_, _]) (hpc := [_]) (S1 := [b6]) rfl (fun _ h => h) (fun _ h => h) (Enters.func CaF.h rfl) (fun w1 hI => zva (js l) a (l.length - 2) c D (zny hS) (by omega) b6 _ _ htl.1 htl.2 w1 hI)) rfl ?_;rintro _ _ _ ⟨_, hX9, ⟨rfl, rfl⟩, rfl⟩;rw [show takF 0 (zmB l).1 (zmB l).2 (js l) = qc l from rfl];refine g [[3],[4,6,4,3,2,0]] ?_;refine WL.so (SO.alloc ZvF.h rfl) rfl (zw fun b7 hb7 => ?_);refine g [[4],[3,7,4,3,2,0]] ?_;refine WL.so (SO.makeSlice Tryz.underlying27 Tryz.sizeOf5 Tryz.typeInfo5 Tryz.zeroValue5 rfl rfl rfl (by omega) (by show (1 : Int) * _ ≤ _; omega)) rfl ?_;rintro _ _ _ ⟨b32, hb32, rfl, rfl, rfl⟩;refine g [[4],[3,8,7,4,3,2,0]] ?_;refine WL.so (SO.copy (k := 0) (cs := xI [.int .u8 0] (l.length * 1)) rfl Tryz.underlying27 Tryz.sizeOf5 rfl rfl rfl (ys := l.flatMap btC) (hS.rdS zmo (fun e => by subst e; simp at ho2)) (zoM _) (by rw [yz, zr zmo]; exact Nat.le_refl _)) rfl ?_;rintro _ _ _ ⟨rfl, rfl⟩;rw [xz (xI [.int .u8 0] (l.length * 1)) (l.flatMap btC) (by rw [yz, zr zmo])];refine g [[3],[9,8,7,4,3,2],[7,9,8,7,4,3,2]] ?_;refine WC.cond rfl (fun c66 => ?_) (fun c66 => ?_)
    · try simp only [zq] at c66
      have hl2 : (qc l).2 = 0 := by omega
      refine g [[4,9,8,4,3,2]] ?_;refine WL.cl rfl (fun w hI => znK (js l) a (l.length - 2) c _ (zny hS) (by omega) _ hI.imm) (WL.yd (Yd.field (cs := [nt (kd (js l)).1, nt (kd (js l)).2]) Tryz.underlying113 rfl Tryz.isAgg3 rfl rfl) rfl ?_);refine WL.yd (Yd.conv UnF.h UnF.h rfl (wr8 ⟨by (try dsimp only); omega, by (try dsimp only); omega⟩)) rfl ?_;refine WL.know 75 (bt (UInt8.ofNat (kd (js l)).1)) rfl (btN (by omega)).symm ?_;refine WL.yd (Yd.indexS UnF.h SzF.h rfl rfl (by (try dsimp only); omega) (by (try dsimp only); omega) (rfl)) rfl ?_;refine WL.so (SO.storeRow (f := btC) (m := 1) zmo (l := l) (i := l.length - 2) (y := UInt8.ofNat (kd (js l)).1) (rest := []) 0 rfl SzF.h rfl rfl rfl (by omega) (za rfl)) rfl ?_;rintro _ _ _ ⟨rfl, rfl, rfl⟩;refine g [[4],[7,8,3,2]] ?_;refine WP.endDA [_, _] [_, _] rfl rfl CaF.h (fun w hI => zmv b3 w) rfl zV (fun w hI => ⟨_, _, _, rfl, DExt.refl _ _, Inv.left (l1 := [_]) hI, rfl, .inl ⟨by rw [zoh h0' hts hl2], b32, by rw [zoh h0' hts hl2, List.length_set]; rfl, by rw [zoh h0' hts hl2] <;> rfl, hb32⟩⟩)
    try simp only [zq] at c66
    have hl2 : (qc l).2 ≠ 0 := by omega
    refine g [[1],[7,9,8,7,4,3,2]] ?_;refine WC.cond rfl (fun c77 => ?_) (fun c77 => ?_)
    · try simp only [zq] at c77
      have hl1 : (qc l).1 = 0 := by omega
      refine g [[3,9,8,4,3,2]] ?_;refine WL.yd (Yd.add rfl rfl (wr64 ⟨by (try dsimp only); omega, by (try dsimp only); omega⟩)) rfl ?_;refine WL.know 83 (nt (l.length - 1)) rfl (by congr 1; omega) (g [[1]] ?_);refine WL.cl rfl (fun w hI => znK (js l) a (l.length - 2) c _ (zny hS) (by omega) _ hI.imm) (WL.yd (Yd.field (cs := [nt (kd (js l)).1, nt (kd (js l)).2]) Tryz.underlying113 rfl Tryz.isAgg3 rfl rfl) rfl ?_);refine WL.yd (Yd.conv UnF.h UnF.h rfl (wr8 ⟨by (try dsimp only); omega, by (try dsimp only); omega⟩)) rfl ?_;refine WL.know 87 (bt (UInt8.ofNat (kd (js l)).2)) rfl (btN (by omega)).symm ?_;refine WL.yd (Yd.indexS UnF.h SzF.h rfl rfl (by (try dsimp only); omega) (by (try dsimp only); omega) (rfl)) rfl ?_;refine WL.so (SO.storeRow (f := btC) (m := 1) zmo (l := l) (i := l.length - 1) (y := UInt8.ofNat (kd (js l)).2) (rest := []) 0 rfl SzF.h rfl rfl rfl (by omega) (za rfl)) rfl ?_;rintro _ _ _ ⟨rfl, rfl, rfl⟩;refine g [[4],[7,8,3,2]] ?_;refine WP.endDA [_, _] [_, _] rfl rfl CaF.h (fun w hI => zmv b3 w) rfl zV (fun w hI => ⟨_, _, _, rfl, DExt.refl _ _, Inv.left (l1 := [_]) hI, rfl, .inl ⟨by rw [zoi h0' hts hl2 hl1], b32, by rw [zoi h0' hts hl2 hl1, List.length_set]; rfl, by rw [zoi h0' hts hl2 hl1] <;> rfl, hb32⟩⟩)
    try simp only [zq] at c77
    have hl1 : (qc l).1 ≠ 0 := by omega
    refine g [[1],[5,9,8,7,3,2]] ?_;refine WL.cl rfl (fun w hI => zDs (qc l).2 (qc l).1 hlk.2 hlk.1 _) (g [[4],[4,10,9,8,7,3,2]] ?_);refine WL.part 45 rfl (fun g45 => ?_) (fun g45 => ?_)
    · try simp only [zq] at g45
      refine g [[4]] ?_;refine WL.part 49 rfl (fun g49 => ?_) (fun g49 => ?_)
      · try simp only [zq] at g49
        refine WL.cl rfl (fun w hI => zmK _ _) (g [[2],[0,10,8,7,3,2]] ?_);refine WC.drawD [_, _, _, _] (pz [1,3,5,7,9,11,13,19,21,14,17,23,25,27,29,30]) zk zk zX (fun _ hI => hI.tail) (g [[2]] ?_);refine WA.yd rfl (Yd.sub rfl rfl (wr64 ⟨by (try dsimp only); omega, by (try dsimp only); omega⟩)) rfl ?_;refine WA.know 53 (nt ((quoN (qc l).2 (qc l).1) - 1)) rfl (by congr 1; omega) (g [[2]] ?_);refine WA.yd rfl (Yd.sub rfl rfl (wr64 ⟨by (try dsimp only); omega, by (try dsimp only); omega⟩)) rfl ?_;refine WA.know 56 (nt ((quoN (qc l).2 (qc l).1) - 1)) rfl (by congr 1; omega) ?_;have hb8 := (gt l ((quoN (qc l).2 (qc l).1) - 1)).toNat_lt;refine WA.yd rfl (Yd.indexS UnF.h SzF.h rfl rfl (by (try dsimp only); omega) (by (try dsimp only); omega) (rfl)) rfl (g [[2]] ?_);refine WA.so rfl (SO.ofYd (Yd.l1 rfl (Rd.flat zmo (k := 0) (i := (quoN (qc l).2 (qc l).1) - 1) (j := 0) (l := l) (rest := []) rfl (by omega) (by decide) rfl))) rfl (zs ⟨fun _ hI => hI.tail, ?_⟩);refine WA.yd rfl (Yd.conv UnF.h UnF.h rfl (wr64 ⟨by omega, by omega⟩)) rfl ?_;refine WA.yd rfl (Yd.add rfl rfl (wr64 ⟨by (try dsimp only); omega, by (try dsimp only); omega⟩)) rfl ?_;refine WA.yd rfl (Yd.rem rfl rfl (by (try dsimp only); omega) (by (try dsimp only); omega)) rfl ?_;refine WA.yd rfl (Yd.conv UnF.h UnF.h rfl (wr8 ⟨by (try dsimp only); omega, by (try dsimp only); omega⟩)) rfl ?_;refine WA.yd rfl (Yd.indexS UnF.h SzF.h rfl rfl (by (try dsimp only); omega) (by (try dsimp only); omega) (rfl)) rfl ?_;refine WA.know 64 (bt (UInt8.ofNat (((gt l ((quoN (qc l).2 (qc l).1) - 1)).toNat + (qc l).1) % 251))) rfl ((btN (by omega)).trans (by simp)).symm ?_;refine WA.so rfl (SO.storeRow (f := btC) (m := 1) zmo (l := l) (i := (quoN (qc l).2 (qc l).1) - 1) (y := UInt8.ofNat (((gt l ((quoN (qc l).2 (qc l).1) - 1)).toNat + (qc l).1) % 251)) (rest := []) 0 rfl SzF.h rfl rfl rfl (by omega) (za rfl)) rfl ?_;rintro _ _ _ ⟨rfl, rfl, rfl⟩;refine ⟨fun _ hI => hI.tail, ?_⟩;refine g [[4],[7,8,3,2]] ?_;refine WP.endDA [_, _] [_, _] rfl rfl CaF.h (fun w hI => zmv b3 w) rfl zV (fun w hI => ⟨_, _, _, rfl, DExt.refl _ _, Inv.left (l1 := [_]) hI, rfl, .inl ⟨by rw [znX h0' hts hl2 hl1 (by omega)], b32, by rw [znX h0' hts hl2 hl1 (by omega), List.length_set]; rfl, by rw [znX h0' hts hl2 hl1 (by omega)] <;> rfl, hb32⟩⟩)
      try simp only [zq] at g49
      refine WL.nf rfl (fun w hI => zmw _ _) (g [[3]] ?_);refine WP.panicDA (k := 4) [_, _] [_, _] rfl CaF.h rfl (fun w hI => qa b3 _ 0 _ w (hI.own _ _ (List.mem_of_getElem? (i := 4) rfl))) rfl zV (fun w hI => ⟨_, _, [], rfl, DExt.refl _ _, Inv.nil hI, rfl, .inr ⟨by rw [zmZ h0' hts hl2 hl1 (by omega)]; first | decide | (simpa using h0), by rw [zmZ h0' hts hl2 hl1 (by omega)], by rw [zmZ h0' hts hl2 hl1 (by omega)]; rfl, rfl⟩⟩)
    try simp only [zq] at g45
    refine g [[4]] ?_;refine WL.nf rfl (fun w hI => zmw _ _) (g [[3]] ?_);refine WP.panicDA (k := 4) [_, _] [_, _] rfl CaF.h rfl (fun w hI => qa b3 _ 0 _ w (hI.own _ _ (List.mem_of_getElem? (i := 4) rfl))) rfl zV (fun w hI => ⟨_, _, [], rfl, DExt.refl _ _, Inv.nil hI, rfl, .inr ⟨by rw [zmZ h0' hts hl2 hl1 (by omega)]; first | decide | (simpa using h0), by rw [zmZ h0' hts hl2 hl1 (by omega)], by rw [zmZ h0' hts hl2 hl1 (by omega)]; rfl, rfl⟩⟩)
  try simp only [zq] at g19
  refine WA.no rfl (SO.fail (Enters.func CaF.h rfl) (fun w hI => zmw _ _) (g [[1]] ?_));refine WP.panicDA (k := 1) [_, _] [_, _] rfl CaF.h rfl (fun w hI => qa b3 _ 0 _ w (hI.own _ _ (List.mem_of_getElem? (i := 1) rfl))) rfl zV (fun w hI => ⟨_, _, [], rfl, DExt.refl _ _, Inv.nil hI, rfl, .inr ⟨by rw [znZ h0' g19]; first | decide | (simpa using h0), by rw [znZ h0' g19], by rw [znZ h0' g19]; rfl, rfl⟩⟩)
def Sp64 (x : Sp) : Prop := i64B x.lo ∧ i64B x.hi
theorem sp64 {x : Sp} (h : znw x) : Sp64 x := ⟨i100 h.1, i100 h.2⟩
theorem zu3 {x : Sp} (h : Sp64 x) : (vX x).length ≤ 42 := by
  have := zni h.1; have := zni h.2;unfold vX; split <;> simp <;> omega
structure zsX (s : Surf) : Prop where
  rows : i64B s.rows
  step : i64B s.step
  nw : s.water.length ≤ 50
  nv : s.waves.length ≤ 50
  nh : s.huts.length ≤ 50
  w : ∀ x ∈ s.water, Sp64 x
  v : ∀ x ∈ s.waves, Sp64 x
  h : ∀ x ∈ s.huts, i64B x.floor ∧ i64B x.brake ∧ i64B x.row
theorem zsX.of {s : Surf} (h : zmq s) : zsX s :=
  ⟨by have := h.rows; exact ⟨by omega, by omega⟩, by have := h.step; exact ⟨by omega, by omega⟩, by have := h.nwater; omega, by have := h.nwater; have := h.same; omega, by have := h.nhuts; omega,
    fun x hx => sp64 (h.w100 x hx), fun x hx => sp64 (h.v100 x hx), fun x hx => ⟨i100 (h.h100 x hx).1, i100 (h.h100 x hx).2.1, i100 (h.h100 x hx).2.2⟩⟩
theorem zsX.zero : zsX zu7 := ⟨⟨by decide, by decide⟩, ⟨by decide, by decide⟩, by decide, by decide, by decide, by simp [zu7], by simp [zu7], by simp [zu7]⟩
structure zsU (f : Flag) : Prop where
  low : i64B f.low
  high : i64B f.high
  quiet : i64B f.quiet
  nh : f.hours.length ≤ 50
  ns : f.seen.length ≤ 50
  h : ∀ x ∈ f.hours, Sp64 x.wind
  s : ∀ x ∈ f.seen, i64B x.hour
theorem zsU.of {f : Flag} (h : K5 f) : zsU f :=
  ⟨i100 h.n100.1, i100 h.n100.2.1, i100 h.n100.2.2, by have := h.nhours; omega, by have := h.nseen; omega, fun x hx => sp64 (h.h100 x hx), fun x hx => i100 (h.s100 x hx)⟩
theorem zsU.zero : zsU zvf := ⟨⟨by decide, by decide⟩, ⟨by decide, by decide⟩, ⟨by decide, by decide⟩, by decide, by decide, by simp [zvf], by simp [zvf]⟩
structure zqd (b : xb) : Prop where
  wide : i64B b.wide
  deep : i64B b.deep
  speed : i64B b.speed
  last : i64B b.last
  n : b.seen.length ≤ 50
  nr : ∀ l ∈ b.seen, l.length ≤ 50
  s : ∀ l ∈ b.seen, ∀ s ∈ l, i64B s.minute ∧ Sp64 s.cols ∧ Sp64 s.rows
theorem zqd.of {b : xb} (h : xv b) : zqd b :=
  ⟨i100 h.n100.1, i100 h.n100.2.1, i100 h.n100.2.2.1, i100 h.n100.2.2.2, by have := h.n; omega, fun l hl => by have := (h.rows l hl).1; omega, fun l hl s hs => ⟨i100 (h.s100 l hl s hs).1, sp64 (h.s100 l hl s hs).2.1, sp64 (h.s100 l hl s hs).2.2⟩⟩
theorem zqd.zero : zqd zrl := ⟨⟨by decide, by decide⟩, ⟨by decide, by decide⟩, ⟨by decide, by decide⟩, ⟨by decide, by decide⟩, by decide, by simp [zrl], by simp [zrl]⟩
theorem uU {α : Type} [Inhabited α] {l : List α} {x : α} (h : x ∈ l) : ∃ i, i < l.length ∧ gt l i = x := by
  obtain ⟨i, hi, e⟩ := List.mem_iff_getElem.1 h;exact ⟨i, hi, by simp [gt, List.getD, hi, e]⟩
theorem zom {b : Bool} {p : Prop} (h : b = true ↔ p) (hn : ¬ p) : Ending.returned (Value.bool false) = .returned (.bool b) := by
  cases b
  · rfl
  exact absurd (h.1 rfl) hn
theorem zw3 {b : Bool} {p : Prop} (h : b = true ↔ p) (hp : p) : Ending.returned (Value.bool true) = .returned (.bool b) := by
  rw [h.2 hp]
theorem zrG (n lo hi : Int) (w : World) : z8 Tryz.prog 52 [it n, it lo, it hi] w (.bool (inB n lo hi)) := by
  unfold z8;refine en Tryz.func52 rfl Tryz.ntmps52 zI (g [[1],[5,0,1,2],[5,6,0,1,2]] ?_);refine WL.part 10 rfl (fun g10 => ?_) (fun g10 => ?_)
  · try simp only [zq] at g10
    refine g [[8]] ?_;refine WP.ret1 rfl rfl rfl (RV.tmp rfl) (fun w hI => ⟨zb (by rw [Bool.eq_iff_iff]; simp [inB]; omega), hI.keep⟩)
  try simp only [zq] at g10
  refine g [[8]] ?_;refine WP.ret1 rfl rfl rfl (RV.tmp rfl) (fun w hI => ⟨zb (by rw [Bool.eq_iff_iff]; simp [inB]; omega), hI.keep⟩)
end Go.Proofs.YtaiegbjgfdhgaaaGreatDoor
namespace Go.Bk
open Go.W Go.Bk Go.Proofs.YtaiegbjgfdhgaaaGreatDoor
theorem zmq.gh {s : Surf} (h : zmq s) {k : Nat} (hk : k < s.huts.length) : hutB s.rows (gt s.huts k) = true := by
  have h1 := h.huts _ (k5 hk); unfold hutB inB; simp only [Bool.and_eq_true, decide_eq_true_eq]; exact ⟨⟨h1.1, h1.2.1⟩, h1.2.2⟩
end Go.Bk
namespace Go.Proofs.YtaiegbjgfdhgaaaGreatDoor
open Go.W Go.Bk
end Go.Proofs.YtaiegbjgfdhgaaaGreatDoor
namespace Go.Bk
open Go.W Go.Bk Go.Proofs.YtaiegbjgfdhgaaaGreatDoor
theorem K5.gh {f : Flag} (h : K5 f) {k : Nat} (hk : k < f.hours.length) : (0 ≤ (gt f.hours k).wind.lo ∧ (gt f.hours k).wind.lo ≤ (gt f.hours k).wind.hi ∧ (gt f.hours k).wind.hi ≤ 12) ∧ 0 ≤ (gt f.hours k).thunder ∧ (gt f.hours k).thunder ≤ 2 := by
  have h1 := h.hours _ (k5 hk); exact ⟨zmU.1 h1.1, h1.2⟩
end Go.Bk
namespace Go.Proofs.YtaiegbjgfdhgaaaGreatDoor
open Go.W Go.Bk
theorem zpE {b : xb} : ∀ (l : List zms) (m : Int) (j : Nat), rowB b m l = true → rowB b m (l.take j) = true
  | [], m, j, _ => by simp [rowB]
  | s :: l, m, 0, _ => by simp [rowB]
  | s :: l, m, j + 1, h => by
    rw [List.take_succ_cons, rowB];rw [rowB] at h;simp only [Bool.and_eq_true] at h ⊢;exact ⟨h.1, zpE l s.minute j h.2⟩
theorem zrF {h : Hors} (hA : (0 ≤ h.pace ∧ h.pace ≤ 3) ∧ h.moves.length ≤ 7) (hF : ∀ i, i < h.moves.length → (0 ≤ (gt h.moves i).at_ ∧ (gt h.moves i).at_ ≤ 200) ∧ (0 ≤ (gt h.moves i).place ∧ (gt h.moves i).place ≤ 30) ∧ 1 ≤ (gt h.moves i).long.lo ∧ (gt h.moves i).long.lo ≤ (gt h.moves i).long.hi ∧ (gt h.moves i).long.hi ≤ 20) : zmV h := by
  refine ⟨hA.1, hA.2, fun x hx => ?_⟩;obtain ⟨i, hi, rfl⟩ := uU hx; exact hF i hi
theorem ztW (h : Hors) (m : Sl) (D : Imm) (hR : Ky D h m) (w : World) (hH : Holds D w) : z8 Tryz.prog 8 [k3 h m] w (.bool (qn h)) := by
  unfold z8;obtain ⟨ma, mn, mc⟩ := m;obtain rfl : mn = h.moves.length := hR.r.len';have hRm : SlL D 4 (h.moves.map mvC) ma h.moves.length := hR.r;have nm : h.moves.length ≤ 9223372036854775807 := hR.n;refine en Tryz.func8 rfl Tryz.ntmps8 (Inv.start hH) (g [[1],[1,0]] ?_);refine WL.so (SO.box rfl rfl) rfl (zw fun b1 hb1 => ?_);refine g [[5],[3,2,1]] ?_;refine WL.cl rfl (fun w hI => zrG _ _ _ _) (g [[2]] ?_);refine WL.part 9 rfl (fun g9 => ?_) (fun g9 => ?_)
  · try simp only [zq] at g9
    refine g [[9],[6,2,1]] ?_;refine WP.ret1 rfl rfl rfl (RV.tmp rfl) (fun w hI => ⟨zom qs (by intro h; have h1 := h.pace; have h2 := h.n; (simp only [inB, spB, decide_eq_true_eq, decide_eq_false_iff_not] at *; omega)), hI.keep⟩)
  try simp only [zq] at g9
  refine g [[7]] ?_;refine WC.cond rfl (fun c14 => ?_) (fun c14 => ?_)
  · try simp only [zq] at c14
    refine g [[1],[6,2,1]] ?_;refine WP.ret1 rfl rfl rfl (RV.tmp rfl) (fun w hI => ⟨zom qs (by intro h; have h1 := h.pace; have h2 := h.n; (simp only [inB, spB, decide_eq_true_eq, decide_eq_false_iff_not] at *; omega)), hI.keep⟩)
  try simp only [zq] at c14
  refine g [[4],[5,2,1]] ?_;have hA : (0 ≤ h.pace ∧ h.pace ≤ 3) ∧ h.moves.length ≤ 7 := by (simp only [inB, spB, decide_eq_true_eq, decide_eq_false_iff_not] at *; omega)
  refine WC.loopT [] (fun k : Nat => [(1, pt b1), (3, nt k)]) (fun _ => [(b1, .cells (List.toArray [it h.pace, .slice ma h.moves.length mc]) 24 (0, 0))]) (fun k => k ≤ h.moves.length ∧ ∀ i, i < k → (0 ≤ (gt h.moves i).at_ ∧ (gt h.moves i).at_ ≤ 200) ∧ (0 ≤ (gt h.moves i).place ∧ (gt h.moves i).place ≤ 30) ∧ 1 ≤ (gt h.moves i).long.lo ∧ (gt h.moves i).long.lo ≤ (gt h.moves i).long.hi ∧ (gt h.moves i).long.hi ≤ 20) (fun k => h.moves.length - k) 0 ⟨Nat.zero_le _, fun _ h => absurd h (Nat.not_lt_zero _)⟩ rfl ⟨rfl, rfl, trivial⟩ ?_;rintro k ⟨hk, hF⟩;refine g [[2],[8,1,3]] ?_;refine WC.cond rfl (fun c19 => ?_) (fun c19 => ?_)
  · try simp only [zq] at c19
    have hkl : k < h.moves.length := by omega
    refine g [[5],[4,1,3]] ?_;refine WL.yd (Yd.ix rfl rfl (hRm.addr k (by omega))) rfl (WL.yd (Yd.lV [_, _, _, _] rfl ((hRm.at k (by omega)).rdn 0 4 rfl)) rfl ?_);refine WL.so (SO.alloc ZvF.h rfl) rfl (zw fun b4 hb4 => ?_);refine g [[4],[3,4,1,3]] ?_;refine WL.cl rfl (fun w hI => zrG _ _ _ _) (g [[2]] ?_);refine WL.part 31 rfl (fun g31 => ?_) (fun g31 => ?_)
    · try simp only [zq] at g31
      refine g [[30],[10,1,3]] ?_;refine WP.ret1 rfl rfl rfl (RV.tmp rfl) (fun w hI => ⟨zom qs (by intro h; have h1 := h.moves _ (k5 hkl); (simp only [inB, spB, decide_eq_true_eq, decide_eq_false_iff_not] at *; omega)), hI.keep⟩)
    try simp only [zq] at g31
    refine g [[2]] ?_;refine WL.sog rfl (SO.callP CaF.h rfl (fun w hI => zrG _ _ _ _)) rfl (zs (g [[3]] ?_));refine WL.part 37 rfl (fun g37 => ?_) (fun g37 => ?_)
    · try simp only [zq] at g37
      refine g [[24],[10,1,3]] ?_;refine WP.ret1 rfl rfl rfl (RV.tmp rfl) (fun w hI => ⟨zom qs (by intro h; have h1 := h.moves _ (k5 hkl); (simp only [inB, spB, decide_eq_true_eq, decide_eq_false_iff_not] at *; omega)), hI.keep⟩)
    try simp only [zq] at g37
    refine g [[6]] ?_;refine WL.part 43 rfl (fun g43 => ?_) (fun g43 => ?_)
    · try simp only [zq] at g43
      refine g [[18],[10,1,3]] ?_;refine WP.ret1 rfl rfl rfl (RV.tmp rfl) (fun w hI => ⟨zom qs (by intro h; have h1 := h.moves _ (k5 hkl); (simp only [inB, spB, decide_eq_true_eq, decide_eq_false_iff_not] at *; omega)), hI.keep⟩)
    try simp only [zq] at g43
    refine g [[9]] ?_;refine WL.part 52 rfl (fun g52 => ?_) (fun g52 => ?_)
    · try simp only [zq] at g52
      refine g [[9],[10,1,3]] ?_;refine WP.ret1 rfl rfl rfl (RV.tmp rfl) (fun w hI => ⟨zom qs (by intro h; have h1 := h.moves _ (k5 hkl); (simp only [inB, spB, decide_eq_true_eq, decide_eq_false_iff_not] at *; omega)), hI.keep⟩)
    try simp only [zq] at g52
    refine g [[7]] ?_;refine WC.cond rfl (fun c57 => ?_) (fun c57 => ?_)
    · try simp only [zq] at c57
      refine g [[1],[10,1,3]] ?_;refine WP.ret1 rfl rfl rfl (RV.tmp rfl) (fun w hI => ⟨zom qs (by intro h; have h1 := h.moves _ (k5 hkl); (simp only [inB, spB, decide_eq_true_eq, decide_eq_false_iff_not] at *; omega)), hI.keep⟩)
    try simp only [zq] at c57
    refine g [[3],[5,1,3]] ?_;exact WP.againT (k + 1) ⟨hkl, (fun i hi => by rcases Nat.lt_or_ge i k with h | h; exact hF i h; obtain rfl : i = k := (by omega); have g8 := znf.1 g31; have g9 := znf.1 g37; omega)⟩ (by omega) [_] _ rfl rfl ⟨rfl, rfl, trivial⟩
  try simp only [zq] at c19
  obtain rfl : k = h.moves.length := by omega
  refine g [[6]] ?_;refine WC.ofFr [] trivial (g [[5]] ?_);refine WP.ret1 rfl rfl rfl (RV.tmp rfl) (fun w hI => ⟨zw3 qs (zrF hA hF), hI.keep⟩)
theorem zv0 (l1 l2 : Bs) (a1 a2 : Option Addr) (n1 n2 c1 c2 : Nat) (D : Imm) (hS1 : SlL D 1 (l1.map btC) a1 n1) (hS2 : SlL D 1 (l2.map btC) a2 n2) (w : World) (hH : Holds D w) : z8 Tryz.prog 37 [.slice a1 n1 c1, .slice a2 n2 c2] w (.bool (decide (l1 = l2))) := by
  unfold z8;refine en Tryz.func37 rfl Tryz.ntmps37 (Inv.start hH) (g [[1],[5,0,1],[2,4,0,1]] ?_);refine WL.yd (Yd.convBytes (l := l1) UnF.h UnF.h UnF.h rfl hS1) rfl (g [[1]] ?_);refine WL.yd (Yd.convBytes (l := l2) UnF.h UnF.h UnF.h rfl hS2) rfl (WL.yd (Yd.eqS' rfl rfl) rfl (g [[4]] ?_));refine WP.ret1 rfl rfl rfl (RV.tmp rfl) (fun w hI => ⟨rfl, hI.keep⟩)
theorem zDr (l : Bs) (a : Option Addr) (n c : Nat) (D : Imm) (hS : SlL D 1 (l.map btC) a n) (hn : n ≤ 2 ^ 18) (i : Nat) (x : UInt8) (hat : i < l.length) (w : World) (hH : Holds D w) : y6 Tryz.prog 10 [.slice a n c, nt i, bt x] w D (fun v D' => ∃ a n c, v = .slice a n c ∧ SlL D' 1 ((l.set i x).map btC) a n ∧ n ≤ c) := by
  unfold y6;obtain rfl : n = l.length := hS.len';refine en Tryz.func10 rfl Tryz.ntmps10 (Inv.start hH) (g [[1],[5,0,1,2],[1,6,0,1,2]] ?_);refine WL.so (SO.buildSlice0 UnF.h SzF.h) rfl ?_;rintro _ _ _ ⟨b8, hb8, rfl, rfl, rfl⟩;refine g [[1]] ?_;refine WL.so (SO.appendOw (o := some ⟨b8, 0, []⟩) (len := 0) (n := l.length) (xs := []) (size := 1) [] [] [] rfl rfl Tryz.underlying27 Tryz.sizeOf5 Tryz.typeInfo5 Tryz.zeroValue5 rfl rfl rfl rfl (hS.rdS zmo (fun e => by subst e; simp at hat)) (zoM _) ⟨hb8, Nat.le_refl _, rfl⟩ rfl (by omega) (by show (2 * (_ + _) + 1000) * 1 ≤ 2 ^ 48; omega) (by omega)) rfl ?_;rintro _ _ _ ⟨u1, hu1, rfl, rfl, rfl⟩;rw [Nat.zero_add] at hu1 ⊢;rw [List.nil_append];refine g [[4],[4,7,6,1,2]] ?_;refine WL.yd (Yd.ix rfl rfl (rfl)) rfl (WL.so (SO.storeRow (f := btC) (m := 1) zmo (l := l) (i := i) (y := x) 0 rfl SzF.h rfl rfl rfl hat (za rfl)) rfl ?_);rintro _ _ _ ⟨rfl, rfl, rfl⟩;refine g [[3],[2,7,6]] ?_;refine WL.freezeOw (f := btC) (m := 1) zmo [] [] (some u1) 5 (l.set i x) rfl (by rw [List.length_set]; exact hu1) rfl (fun D2 hX2 hS2 => ?_);refine g [[4]] ?_;refine WP.ret1 rfl rfl rfl (RV.tmp rfl) (fun w1 hI => ⟨_, D2, rfl, hI.keep, hI.imm, hX2, _, _, _, rfl, (show (l.set i x).length = l.length from List.length_set) ▸ hS2, hu1.2.1⟩)
theorem zv7 (a b c d e f g h : Int) : ∀ w, (Op.equalIn 10000 111 (.agg #[it a, it b, it c, it d]) (.agg #[it e, it f, it g, it h])).run Tryz.prog w = .ok (decide ((⟨a, b, ⟨c, d⟩⟩ : Mv) = ⟨e, f, ⟨g, h⟩⟩)) w := by
  intro w
  have h1 : (Op.equalIn 10000 111 (.agg #[it a, it b, it c, it d]) (.agg #[it e, it f, it g, it h])).run Tryz.prog w = .ok (a == e && (b == f && (c == g && d == h))) w := by
    simp [go_sem, Op.eqFields];by_cases h1 : a = e <;> by_cases h2 : b = f <;> by_cases h3 : c = g <;> by_cases h4 : d = h <;> simp_all
  have h2 : (a == e && (b == f && (c == g && d == h))) = decide ((⟨a, b, ⟨c, d⟩⟩ : Mv) = ⟨e, f, ⟨g, h⟩⟩) := by
    rw [Bool.eq_iff_iff]; simp only [Bool.and_eq_true, beq_iff_eq, decide_eq_true_eq, Mv.mk.injEq, Sp.mk.injEq]
  rw [h1, h2]
theorem ztK {a b : List Mv} (h : a.length = b.length) (h2 : a.take a.length = b.take a.length) : a = b := by
  rw [List.take_length, List.take_of_length_le (by omega)] at h2; exact h2
theorem zr1 {a b : List Mv} {k : Nat} (h1 : k < a.length) (h2 : k < b.length) (h : a.take k = b.take k) (hg : gt a k = gt b k) : a.take (k + 1) = b.take (k + 1) := by
  rw [zP h1, zP h2, h, hg]
theorem zzb {a b : List Mv} {k : Nat} (h : a = b) : gt a k = gt b k := by rw [h]
theorem zr7 (x1 x2 : Hors) (m1 m2 : Sl) (D : Imm) (hR1 : Ky D x1 m1) (hR2 : Ky D x2 m2) (w : World) (hH : Holds D w) : z8 Tryz.prog 14 [k3 x1 m1, k3 x2 m2] w (.bool (decide (x1 = x2))) := by
  unfold z8;obtain ⟨ma, mn, mc⟩ := m1;obtain ⟨ma2, mn2, mc2⟩ := m2;obtain rfl : mn = x1.moves.length := hR1.r.len';obtain rfl : mn2 = x2.moves.length := hR2.r.len';have hA1 : SlL D 4 (x1.moves.map mvC) ma x1.moves.length := hR1.r;have hA2 : SlL D 4 (x2.moves.map mvC) ma2 x2.moves.length := hR2.r;have q1 : x1.moves.length ≤ 9223372036854775807 := hR1.n;have q2 : x2.moves.length ≤ 9223372036854775807 := hR2.n;refine en Tryz.func14 rfl Tryz.ntmps14 (Inv.start hH) (g [[1],[1,0,1]] ?_);refine WL.so (SO.box rfl rfl) rfl (zw fun b2 hb2 => ?_);refine WL.so (SO.box rfl rfl) rfl (zw fun b3 hb3 => ?_);refine g [[5],[7,4,3,2]] ?_;refine WL.part 11 rfl (fun g11 => ?_) (fun g11 => ?_)
  · try simp only [zq] at g11
    refine g [[12],[6,4,3,2]] ?_;refine WP.ret1 rfl rfl rfl (RV.tmp rfl) (fun w hI => ⟨zb (decide_eq_false (fun e => by subst e; omega)).symm, hI.keep⟩)
  try simp only [zq] at g11
  refine g [[10]] ?_;refine WC.cond rfl (fun c19 => ?_) (fun c19 => ?_)
  · try simp only [zq] at c19
    refine g [[1],[6,4,3,2]] ?_;refine WP.ret1 rfl rfl rfl (RV.tmp rfl) (fun w hI => ⟨zb (decide_eq_false (fun e => by subst e; omega)).symm, hI.keep⟩)
  try simp only [zq] at c19
  refine g [[4],[5,4,3,2]] ?_;have hA : x1.pace = x2.pace ∧ x1.moves.length = x2.moves.length := ⟨by omega, by omega⟩;refine WC.loopT [] (fun k : Nat => [(2, pt b2), (3, pt b3), (5, nt k)]) (fun _ => [(b3, .cells (List.toArray [it x2.pace, .slice ma2 x2.moves.length mc2]) 24 (0, 0)), (b2, .cells (List.toArray [it x1.pace, .slice ma x1.moves.length mc]) 24 (0, 0))]) (fun k => k ≤ x1.moves.length ∧ x1.moves.take k = x2.moves.take k) (fun k => x1.moves.length - k) 0 ⟨Nat.zero_le _, rfl⟩ rfl ⟨rfl, rfl, rfl, trivial⟩ ?_;rintro k ⟨hk, hF⟩;refine g [[2],[8,2,3,5]] ?_;refine WC.cond rfl (fun c24 => ?_) (fun c24 => ?_)
  · try simp only [zq] at c24
    have hkl : k < x1.moves.length := by omega
    refine g [[5],[0,2,3,5],[3010],[3]] ?_;refine WQ.q rfl (Yd.qt (Yd.ix rfl rfl (hA1.addr k (by omega)))) rfl (WQ.q rfl (Yd.qt (Yd.lV [_, _, _, _] rfl ((hA1.at k (by omega)).rdn 0 4 rfl))) rfl (g [[3]] ?_));refine WQ.q rfl (Yd.qt (Yd.ix rfl rfl (hA2.addr k (by omega)))) rfl (WQ.q rfl (Yd.qt (Yd.lV [_, _, _, _] rfl ((hA2.at k (by omega)).rdn 0 4 rfl))) rfl (g [[1]] ?_));refine WL.yd (Yd.neS EgF.h (zv7 _ _ _ _ _ _ _ _) rfl rfl) rfl (g [[2]] ?_);refine WC.cond rfl (fun c37 => ?_) (fun c37 => ?_)
    · try simp only [zq] at c37
      refine g [[1],[10,2,3,5]] ?_;refine WP.ret1 rfl rfl rfl (RV.tmp rfl) (fun w hI => ⟨zb (decide_eq_false (fun e => c37 (zzb (congrArg Hors.moves e)))).symm, hI.keep⟩)
    try simp only [zq] at c37
    refine g [[3],[5,2,3,5]] ?_;exact WP.againT (k + 1) ⟨hkl, zr1 hkl (by omega) hF c37⟩ (by omega) [] _ rfl rfl ⟨rfl, rfl, rfl, trivial⟩
  try simp only [zq] at c24
  obtain rfl : k = x1.moves.length := by omega
  refine g [[6]] ?_;refine WC.ofFr [] trivial (g [[5]] ?_);refine WP.ret1 rfl rfl rfl (RV.tmp rfl) (fun w hI => ⟨zb (decide_eq_true (by have h1 := ztK hA.2 hF; obtain ⟨p1, v1⟩ := x1; obtain ⟨p2, v2⟩ := x2; simp only at hA h1; rw [hA.1, h1])).symm, hI.keep⟩)
end Go.Proofs.YtaiegbjgfdhgaaaGreatDoor
