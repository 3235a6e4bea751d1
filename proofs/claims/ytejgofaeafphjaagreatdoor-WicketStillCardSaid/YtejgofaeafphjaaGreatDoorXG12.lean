import Derived.Test.YtejgofaeafphjaaGreatDoorXG11
import Derived.Test.YtejgofaeafphjaaGreatDoorXG7
set_option linter.all false
set_option maxRecDepth 100000
set_option maxHeartbeats 4000000
attribute [local irreducible] Go.W.WL Go.W.WLF Go.W.WC Go.W.WCF Go.W.WP Go.W.WA Go.W.WQ Go.W.WH Go.W.WHo Go.W.WCn Go.W.Yd Go.W.Qt Go.W.SO Go.Code.wp Go.Code.wpIn
namespace Go.Proofs.YtejgofaeafphjaaGreatDoor
open Go.W Go.Ti
theorem zdO : zj Tryz.prog 156 [.int .i64 0, .slice none 0 0, .int .i64 0, .int .i64 0, .int .i64 0] [(0, 5)] := ⟨⟨_, Tryz.zeroValue156, rfl⟩, _, Tryz.underlying156, fun w => by simp [Tryz.sizeOf26]⟩
abbrev zbF := SaF.mk zdO
attribute [instance] zbF
def entC (e : Ent) : List Value := [it e.ticket, it e.kind, it e.pence]
theorem xm : ∀ e, (entC e).length = 3 := fun _ => rfl
structure xL (D : Imm) (l : List Ent) (a : Option Addr) (n : Nat) : Prop where
  ent : SlL D 3 (l.map entC) a n
  len : n ≤ 1000
theorem xL.ext {w : World} {D D' : Imm} (hD : DExt w D D') {l : List Ent} {a : Option Addr} {n : Nat} (h : xL D l a n) : xL D' l a n := ⟨h.ent.ext hD, h.len⟩
theorem xL.nil (D : Imm) : xL D [] none 0 := ⟨⟨rfl, fun i r hr => by simp at hr⟩, by omega⟩
def Q2 (X : Till) (s1 : Value) : List Value := [it X.tk.huts, s1, it X.price, it X.fine, it X.wait]
def WM (X : Till) (v : Value) (E : Int) : Ending := if E = 0 then .returned v else .panicked (UV E)
theorem wd {X : Till} {v : Value} {E F : Int} (h : E = F) (h0 : F ≠ 0) : Ending.panicked (UV F) = WM X v E := by
  subst h; unfold WM; rw [if_neg h0]
theorem JB {X : Till} {v : Value} {E : Int} (h : E = 0) : Ending.returned v = WM X v E := by
  unfold WM; rw [if_pos h]
theorem Ud (X : Till) (a1 : Option Addr) (n1 c1 : Nat) (w : World) : z8 Tryz.prog 146 [.agg #[it X.tk.huts, .slice a1 n1 c1, it X.price, it X.fine, it X.wait]] w (nt n1) := by
  unfold z8;refine en Tryz.func146 rfl Tryz.ntmps146 zI (g [[1],[1,0]] ?_);refine WL.so (SO.box rfl rfl) rfl (zw fun b1 hb1 => ?_);refine g [[4],[10,2,1]] ?_;refine WP.ret1 rfl rfl rfl (RV.tmp rfl) (fun w hI => ⟨rfl, hI.keep⟩)
theorem ZE (X : Till) (a1 : Option Addr) (n1 c1 : Nat) (n : Int) (w : World) (hn : n1 = X.tk.l.length) (hl : n1 ≤ 1000) : z8 Tryz.prog 183 [.agg #[it X.tk.huts, .slice a1 n1 c1, it X.price, it X.fine, it X.wait], it n] w (.bool (isT X.tk n)) := by
  unfold z8;refine en Tryz.func183 rfl Tryz.ntmps183 zI (g [[1],[1,0,1]] ?_);refine WL.so (SO.box rfl rfl) rfl (zw fun b2 hb2 => ?_);refine g [[4],[3,4,2,1]] ?_;refine WL.cl rfl (fun w hI => Ud X a1 _ c1 _) (g [[1]] ?_);refine WL.cl rfl (fun w hI => vu _ _ _ _) (g [[4]] ?_);refine WP.ret1 rfl rfl rfl (RV.tmp rfl) (fun w hI => ⟨zb (by subst hn; rfl), hI.keep⟩)
theorem wa (v : Value) (X : Till) (a1 : Option Addr) (n1 c1 : Nat) (w : World) : z8 Tryz.prog 98 [.agg #[it X.tk.huts, .slice a1 n1 c1, it X.price, it X.fine, it X.wait]] w (.bool true) := by
  unfold z8;refine en Tryz.func98 rfl Tryz.ntmps98 zI (g [[1],[1,0]] ?_);refine WL.so (SO.box rfl rfl) rfl (zw fun b1 hb1 => ?_);refine g [[4],[5,2]] ?_;refine WP.ret1 rfl rfl rfl (RV.tmp rfl) (fun w hI => ⟨rfl, hI.keep⟩)
theorem Us (X : Till) (a1 : Option Addr) (n1 c1 : Nat) (D : Imm) (w : World) (hR : TksR D X.tk a1 n1) (hH : Holds D w) (l : List Ent) (ab : Option Addr) (nb cb : Nat) (hB : xL D l ab nb) (fi : FuncId) (cp : List Value) (is : Bool) (hfi : ∀ args w, (callFunc fi args).run Tryz.prog w = .ok (.enter fi args) w) (hIs : ∀ w', Holds D w' → z8 Tryz.prog fi (.agg #[it X.tk.huts, .slice a1 n1 c1, it X.price, it X.fine, it X.wait] :: cp) w' (.bool is)) : Calls Tryz.prog 97 (List.toArray [.agg #[it X.tk.huts, .slice a1 n1 c1, it X.price, it X.fine, it X.wait], .slice ab nb cb, .func (.func fi) #[] cp.toArray]) w fun e w' => e = WM X (.agg #[it X.tk.huts, .slice a1 n1 c1, it X.price, it X.fine, it X.wait]) (yq X l is) ∧ Keep [] w w' := by
  obtain rfl := hR.tick.len';have hl1 := hR.len;obtain rfl := hB.ent.len';have hlb := hB.len
  have hTu : (zu X.tk (-1)).2 = if tksB X.tk then 2 else 1 := by
    have h0 := K1 X.tk;unfold zu;rw [if_pos (by rw [h0]; cases tksB X.tk <;> simp)];exact h0
  refine en Tryz.func97 rfl Tryz.ntmps97 (Inv.start hH) (g [[1],[1,0,1,2]] ?_);refine WL.so (SO.box rfl rfl) rfl (zw fun b3 hb3 => ?_);refine WL.so (SO.alloc ZvF.h rfl) rfl (zw fun b6 hb6 => ?_);refine g [[3],[3,6,3,1,2]] ?_;refine WL.so (SO.alloc ZvF.h rfl) rfl (zw fun b7 hb7 => ?_);refine g [[4],[3,7,6,3,1,2]] ?_;refine WL.cl rfl (fun w hI => Ze X.tk a1 _ c1 D _ hR hI.imm (-1)) (g [[3]] ?_);refine WL.know 19 (it (if tksB X.tk then 2 else 1)) rfl (by rw [← hTu]; rfl) (g [[5],[4,9,7,6,3,1,2]] ?_);refine WL.part 22 rfl (fun g22 => ?_) (fun g22 => ?_)
  · try simp only [zq] at g22
    refine g [[2]] ?_;refine WL.sog rfl (SO.callP CaF.h rfl (fun w hI => vu _ _ _ _)) rfl (zs (g [[2]] ?_));refine WL.part 27 rfl (fun g27 => ?_) (fun g27 => ?_)
    · refine g [[2]] ?_;refine WL.sog rfl (SO.callP CaF.h rfl (fun w hI => vu _ _ _ _)) rfl (zs (g [[2]] ?_));refine WL.part 32 rfl (fun g32 => ?_) (fun g32 => ?_)
      · refine g [[2]] ?_;refine WL.sog rfl (SO.callP CaF.h rfl (fun w hI => vu _ _ _ _)) rfl (zs (g [[1]] ?_));refine WL.part 36 rfl (fun g36 => ?_) (fun g36 => ?_)
        · refine WL.cl rfl (fun w hI => uc _ _) (g [[3],[1,7,6,1,2]] ?_);have hb1 : yx X = true := by simp [yx]; simp_all
          refine g [[3]] ?_;refine WL.part 40 rfl (fun g40 => ?_) (fun g40 => ?_)
          · try simp only [zq] at g40
            refine WL.cl rfl (fun w hI => uc _ _) (g [[3],[3,7,6,1,2]] ?_);refine WL.so (SO.call (Enters.val hfi rfl rfl) (fun w hI => hIs _ hI.imm)) rfl (zs ?_);refine WL.part 44 rfl (fun g44 => ?_) (fun g44 => ?_)
            · refine WL.cl rfl (fun w hI => uc _ _) (g [[4],[7,7,6,1]] ?_);refine WC.loopF (fun k : Nat => [(6, pt b6), (7, pt b7), (46, .slice ab l.length cb), (47, nt l.length), (48, nt k)]) (fun k => k ≤ l.length ∧ ∀ i, i < k → entB X (gt l i) = true) (fun k => l.length - k) 0 ⟨by omega, by intro i hi; omega⟩ ⟨rfl, rfl, rfl, rfl, rfl, trivial⟩ ?_;intro k ⟨hk, hd⟩;refine g [[1],[5,6,7,46,47,48]] ?_;refine WC.cond rfl (fun c49 => ?_) (fun c49 => ?_)
              · try simp only [zq] at c49
                have hkl : k < l.length := by omega
                refine g [[5],[1,6,7,46,47,48]] ?_;refine WL.yd (Yd.ix rfl rfl (hB.ent.addr k (by omega))) rfl (WL.yd (Yd.lV [_, _, _] rfl ((hB.ent.at k (by omega)).rdn 0 3 rfl)) rfl ?_);refine WL.so (SO.alloc ZvF.h rfl) rfl (zw fun b11 hb11 => ?_);refine g [[3],[4,11,6,7,46,47,48]] ?_;refine WL.cl rfl (fun w hI => ZE X a1 _ c1 _ _ rfl hl1) (g [[1]] ?_);refine WL.part 56 rfl (fun g56 => ?_) (fun g56 => ?_)
                · refine g [[2]] ?_;refine WL.sog rfl (SO.callP CaF.h rfl (fun w hI => vu _ _ _ _)) rfl (zs (g [[1]] ?_));refine WL.part 60 rfl (fun g60 => ?_) (fun g60 => ?_)
                  · refine WL.cl rfl (fun w hI => uc _ _) (g [[3],[4,6,7,46,47,48]] ?_);exact WP.againF (k + 1) ⟨by omega, zZ hd (by simp [entB]; simp_all)⟩ (by omega) ⟨rfl, rfl, rfl, rfl, rfl, trivial⟩ (fun _ h => List.mem_cons_of_mem _ h) (fun h => (List.nodup_cons.1 h).2)
                  refine WL.nf rfl (fun w hI => xQ _ _) (g [[5]] ?_);refine WP.panicBody rfl (fun w hI => ⟨?_, hI.keep⟩);exact wd (Q4 hb1 (by omega) hkl (by simp [entB]; simp_all)) (by decide)
                refine g [[4]] ?_;refine WL.nf rfl (fun w hI => xQ _ _) (g [[5]] ?_);refine WP.panicBody rfl (fun w hI => ⟨?_, hI.keep⟩);exact wd (Q4 hb1 (by omega) hkl (by simp [entB]; simp_all)) (by decide)
              try simp only [zq] at c49
              obtain rfl : k = l.length := by omega
              refine g [[6],[6,6,7]] ?_;refine WP.ret1 rfl rfl rfl (RV.cellN AgF.h SzF.h rfl (vs := [_, _, _, _, _]) rfl (RdN.own (k := 1) (n := 5) rfl rfl)) (fun w hI => ⟨JB (Q3 hb1 (by omega) g44 hd), hI.keep⟩)
            refine WL.nf rfl (fun w hI => xQ _ _) (g [[1]] ?_);refine WP.panicBody rfl (fun w hI => ⟨?_, hI.keep⟩);exact wd (zbi hb1 (by omega) g44) (by decide)
          try simp only [zq] at g40
          refine WL.nf rfl (fun w hI => xQ _ _) (g [[1]] ?_);refine WP.panicBody rfl (fun w hI => ⟨?_, hI.keep⟩);exact wd (zbj hb1 (by omega)) (by decide)
        refine WL.nf rfl (fun w hI => xQ _ _) (g [[1]] ?_);refine WP.panicBody rfl (fun w hI => ⟨?_, hI.keep⟩)
        exact wd (jj (by cases hbb : yx X with
          | false => rfl
          | true => simp [yx] at hbb; simp_all)) (by decide)
      refine g [[4]] ?_;refine WL.nf rfl (fun w hI => xQ _ _) (g [[1]] ?_);refine WP.panicBody rfl (fun w hI => ⟨?_, hI.keep⟩)
      exact wd (jj (by cases hbb : yx X with
        | false => rfl
        | true => simp [yx] at hbb; simp_all)) (by decide)
    refine g [[9]] ?_;refine WL.nf rfl (fun w hI => xQ _ _) (g [[1]] ?_);refine WP.panicBody rfl (fun w hI => ⟨?_, hI.keep⟩)
    exact wd (jj (by cases hbb : yx X with
      | false => rfl
      | true => simp [yx] at hbb; simp_all)) (by decide)
  try simp only [zq] at g22
  refine g [[14]] ?_;refine WL.nf rfl (fun w hI => xQ _ _) (g [[1]] ?_);refine WP.panicBody rfl (fun w hI => ⟨?_, hI.keep⟩)
  exact wd (jj (by cases hbb : yx X with
    | false => rfl
    | true => simp [yx] at hbb; simp_all)) (by decide)
end Go.Proofs.YtejgofaeafphjaaGreatDoor
namespace Go.Ti
open Go.W (gt wX)
theorem Q5 {T : Tks} {is : Bool} (h : tksE T is = 0) : tksB T = true ∧ is = true ∧ allT T ≠ [] := by
  unfold tksE at h;split at h
  · omega
  · split at h
    · omega
    · split at h
      · omega
      · rename_i h1 h2 h3
        exact ⟨by simpa using h1, by simpa using h2, fun e => h3 (by rw [e]; rfl)⟩
theorem kU {T : Tks} (hv : tksB T = true) {t : Tru} (h : t ∈ allT T) {i : Nat} (hi : i < T.l.length) :
    (0 ≤ (t i).1 ∧ (t i).1 ≤ 240) ∧ (0 ≤ (t i).2 ∧ (t i).2 ≤ 240) ∧ (t i).1 ≤ (t i).2 := by
  have h1 := ug.1 ((XE.1 h).pair i hi);have h2 := (y8 hv).2.2 i hi;omega
theorem zcv {T : Tks} {n : Int} (h : isT T n = true) : n.toNat < T.l.length ∧ n = (n.toNat : Int) := by
  have := of_decide_eq_true h;omega
theorem j0 (T : Tks) (n : Int) : (0 ≤ (ze T n).1.lo ∧ (ze T n).1.lo ≤ (ze T n).1.hi ∧ (ze T n).1.hi ≤ 240) ∧ (0 ≤ (ze T n).2.1.lo ∧ (ze T n).2.1.lo ≤ (ze T n).2.1.hi ∧ (ze T n).2.1.hi ≤ 240) ∧ (ze T n).1.lo ≤ (ze T n).2.1.hi := by
  unfold ze;split
  · simp
  · rename_i h
    obtain ⟨hv, hi, hne⟩ := Q5 (T := T) (is := isT T n) (by omega);have hlt := (zcv hi).1;obtain ⟨⟨t1, m1, e1⟩, ⟨t2, m2, e2⟩, h1⟩ := jX (fun t => (t n.toNat).1) hne;obtain ⟨⟨t3, m3, e3⟩, ⟨t4, m4, e4⟩, h2⟩ := jX (fun t => (t n.toNat).2) hne;have a1 := kU hv m1 hlt;have a2 := kU hv m2 hlt;have a3 := kU hv m3 hlt;have a4 := kU hv m4 hlt;have b1 := h1 t1 m1;have b2 := h2 t1 m1;have b4 := h2 t4 m4;simp only at *;omega
def yj (T : Tks) (n : Int) : Sp := ⟨max 0 ((ze T n).2.1.lo - (ze T n).1.hi) / 10, ((ze T n).2.1.hi - (ze T n).1.lo) / 10⟩
theorem Yb (T : Tks) (n : Int) : 0 ≤ (yj T n).lo ∧ (yj T n).lo ≤ 24 ∧ 0 ≤ (yj T n).hi ∧ (yj T n).hi ≤ 24 := by
  have := j0 T n;unfold yj;simp only;omega
def zb2 (X : Till) : Sp := ⟨X.price, X.price⟩
def zcq (X : Till) (n : Int) : Sp := ⟨if (zu X.tk n).1 ≠ 0 then 0 else X.fine, if (zu X.tk n).1 = 2 then 0 else X.fine⟩
def zce (X : Till) (n : Int) : Sp := ⟨X.wait * (yj X.tk n).lo, X.wait * (yj X.tk n).hi⟩
def wF (X : Till) (n m : Int) : Bool := decide (m = X.price) && isT X.tk n
def qI (X : Till) (n m : Int) : Bool := decide ((zu X.tk n).1 ≠ 2) && (decide (m = X.fine) && isT X.tk n)
def Yl (X : Till) (n m : Int) : Bool := (rng (yj X.tk n).lo (yj X.tk n).hi).any fun k => decide (k * X.wait = m)
def zd2 (X : Till) (n : Int) : Nat → Sp
  | 1 => zb2 X
  | 2 => zcq X n
  | _ => zce X n
def Zm (X : Till) (n m : Int) : Nat → Bool
  | 1 => wF X n m
  | 2 => qI X n m
  | _ => Yl X n m
theorem Ug {a k : Int} (ha : 0 ≤ a ∧ a ≤ 100) (hk : 0 ≤ k ∧ k ≤ 24) : 0 ≤ a * k ∧ a * k ≤ 2400 := by
  refine ⟨Int.mul_nonneg ha.1 hk.1, ?_⟩;have h1 : a * k ≤ 100 * k := Int.mul_le_mul_of_nonneg_right ha.2 hk.1;omega
def yg (X : Till) : Int × Int := if yx X = false then (0, 1) else (X.price * X.tk.l.length, 0)
def uQ (X : Till) (l : List Ent) : Int := if yq X l true ≠ 0 then yq X l true else tksE X.tk true
end Go.Ti
namespace Go.Proofs.YtejgofaeafphjaaGreatDoor
open Go.W Go.Ti
theorem ze6 : zj Tryz.prog 321 [] [] := ⟨⟨_, Tryz.zeroValue321, rfl⟩, _, Tryz.underlying321, fun w => by simp []⟩
abbrev zbX := SaF.mk ze6
attribute [instance] zbX
theorem ze7 : zj Tryz.prog 323 [] [(0, 0)] := ⟨⟨_, Tryz.zeroValue323, rfl⟩, _, Tryz.underlying323, fun w => by simp [Tryz.sizeOf321]⟩
abbrev zbY := SaF.mk ze7
attribute [instance] zbY
theorem ze8 : zj Tryz.prog 324 [] [] := ⟨⟨_, Tryz.zeroValue324, rfl⟩, _, Tryz.underlying324, fun w => by simp []⟩
abbrev zbZ := SaF.mk ze8
attribute [instance] zbZ
def zcz : Value := .agg #[.nilIface, .iface 321 (.agg #[]), .iface 323 (.agg #[]), .iface 324 (.agg #[])]
theorem Qb (X : Till) (a1 : Option Addr) (n1 c1 : Nat) (D : Imm) (w : World) (hR : TksR D X.tk a1 n1) (hH : Holds D w) (h : (y7 X.tk).2 = 0) : z8 Tryz.prog 99 [.agg #[it X.tk.huts, .slice a1 n1 c1, it X.price, it X.fine, it X.wait]] w (.agg #[it X.tk.huts, .slice a1 n1 c1, it X.price, it X.fine, it X.wait]) := by
  unfold z8;obtain rfl := hR.tick.len';have hl1 := hR.len;refine en Tryz.func99 rfl Tryz.ntmps99 (Inv.start hH) (g [[1],[1,0]] ?_);refine WL.so (SO.box rfl rfl) rfl (zw fun b1 hb1 => ?_);refine WL.so (SO.alloc ZvF.h rfl) rfl (zw fun b2 hb2 => ?_);refine g [[3],[4,2,1]] ?_;refine WL.cl rfl (fun w hI => Vn X.tk a1 _ c1 D _ hR hI.imm) (g [[3]] ?_);refine WL.so (SO.alloc ZvF.h rfl) rfl (zw fun b3 hb3 => ?_);refine g [[5],[4,4,2,1]] ?_;refine WL.part 13 rfl (fun g13 => ?_) (fun g13 => ?_)
  · try simp only [zq] at g13
    refine WL.cl rfl (fun w hI => uc _ _) (g [[3],[6,2,1]] ?_);refine WP.ret1 rfl rfl rfl (RV.cellN AgF.h SzF.h rfl (vs := [_, _, _, _, _]) rfl (RdN.own (k := 1) (n := 5) rfl rfl)) (fun w hI => ⟨rfl, hI.keep⟩)
  try simp only [zq] at g13
  exact (g13 h).elim
theorem Qa (X : Till) (a1 : Option Addr) (n1 c1 : Nat) (D : Imm) (w : World) (hR : TksR D X.tk a1 n1) (hH : Holds D w) (h : (y7 X.tk).2 ≠ 0) : xC Tryz.prog 99 [.agg #[it X.tk.huts, .slice a1 n1 c1, it X.price, it X.fine, it X.wait]] w (UV (y7 X.tk).2) := by
  unfold xC;obtain rfl := hR.tick.len';have hl1 := hR.len;refine en Tryz.func99 rfl Tryz.ntmps99 (Inv.start hH) (g [[1],[1,0]] ?_);refine WL.so (SO.box rfl rfl) rfl (zw fun b1 hb1 => ?_);refine WL.so (SO.alloc ZvF.h rfl) rfl (zw fun b2 hb2 => ?_);refine g [[3],[4,2,1]] ?_;refine WL.cl rfl (fun w hI => Vn X.tk a1 _ c1 D _ hR hI.imm) (g [[3]] ?_);refine WL.so (SO.alloc ZvF.h rfl) rfl (zw fun b3 hb3 => ?_);refine g [[5],[4,4,2,1]] ?_;refine WL.part 13 rfl (fun g13 => ?_) (fun g13 => ?_)
  · try simp only [zq] at g13
    exact (h g13).elim
  try simp only [zq] at g13
  refine WL.nf rfl (fun w hI => xQ _ _) (g [[1]] ?_);refine WP.panicBody rfl (fun w hI => ⟨rfl, hI.keep⟩)
theorem zav (w : World) : z8 Tryz.prog 186 [] w zcz := by
  unfold z8;refine en Tryz.func186 rfl Tryz.ntmps186 zI (g [[1]] ?_);refine WC.ofFr [] trivial (g [[1]] ?_);refine WL.so (SO.alloc ZvF.h rfl) rfl (zw fun b0 hb0 => ?_);refine g [[3],[7,0]] ?_;refine WL.yd (Yd.buildA (zs := [.nilIface, .nilIface, .nilIface, .nilIface]) ⟨_, ZvF.h, rfl⟩ UnF.h SzF.h rfl (cs := [_, _, _, _]) rfl) rfl (g [[4]] ?_);refine WP.ret1 rfl rfl rfl (RV.cellN AgF.h SzF.h rfl (vs := [_, _, _, _]) rfl (RdN.own (k := 0) (n := 4) rfl rfl)) (fun w hI => ⟨rfl, hI.keep⟩)
theorem jT (X : Till) (a1 : Option Addr) (n1 c1 : Nat) (n m : Int) (w : World) (hn : n1 = X.tk.l.length) (hl1 : n1 ≤ 1000) : z8 Tryz.prog 343 [.agg #[], .agg #[it X.tk.huts, .slice a1 n1 c1, it X.price, it X.fine, it X.wait], it n, it m] w (.bool (wF X n m)) := by
  unfold z8;subst hn;refine en Tryz.func343 rfl Tryz.ntmps343 zI (g [[1],[1,0,1,2,3]] ?_);refine WL.so (SO.box rfl rfl) rfl (zw fun b4 hb4 => ?_);refine WL.so (SO.box rfl rfl) rfl (zw fun b5 hb5 => ?_);refine g [[4],[7,8,5,2,3]] ?_;refine WL.part 14 rfl (fun g14 => ?_) (fun g14 => ?_)
  · try simp only [zq] at g14
    refine g [[2]] ?_;refine WL.sog rfl (SO.callP CaF.h rfl (fun w hI => ZE X a1 _ c1 n _ rfl hl1)) rfl (zs (g [[5]] ?_));refine WP.ret1 rfl rfl rfl (RV.tmp rfl) (fun w hI => ⟨zb (by unfold wF; simp_all), hI.keep⟩)
  try simp only [zq] at g14
  refine g [[8]] ?_;refine WP.ret1 rfl rfl rfl (RV.tmp rfl) (fun w hI => ⟨zb (by unfold wF; simp_all), hI.keep⟩)
theorem VJ (X : Till) (a1 : Option Addr) (n1 c1 : Nat) (D : Imm) (w : World) (hR : TksR D X.tk a1 n1) (hH : Holds D w) (n m : Int) : z8 Tryz.prog 345 [.agg #[], .agg #[it X.tk.huts, .slice a1 n1 c1, it X.price, it X.fine, it X.wait], it n, it m] w (.bool (qI X n m)) := by
  unfold z8;obtain rfl := hR.tick.len';have hl1 := hR.len;refine en Tryz.func345 rfl Tryz.ntmps345 (Inv.start hH) (g [[1],[1,0,1,2,3]] ?_);refine WL.so (SO.box rfl rfl) rfl (zw fun b4 hb4 => ?_);refine WL.so (SO.box rfl rfl) rfl (zw fun b5 hb5 => ?_);refine g [[4],[5,8,5,4,2,3]] ?_;refine WL.cl rfl (fun w hI => Ze X.tk a1 _ c1 D _ hR hI.imm n) (g [[8],[2,9,8,5,4,2,3]] ?_);refine WL.so (SO.alloc ZvF.h rfl) rfl (zw fun b11 hb11 => ?_);refine g [[4],[10,11,9,8,5,4,2,3],[4,11,9,8,4,2,3]] ?_;refine WL.part 28 rfl (fun g28 => ?_) (fun g28 => ?_)
  · try simp only [zq] at g28
    refine WL.ydg rfl (Yd.fieldZ 2 rfl Tryz.underlying323 rfl Tryz.sizeOf321 zk rfl) rfl (g [[4]] ?_);refine WL.sog rfl (SO.callP CaF.h rfl (fun w hI => jT { X with price := X.fine } a1 _ c1 n m _ rfl hl1)) rfl (zs (g [[5]] ?_));refine WP.ret1 rfl rfl rfl (RV.tmp rfl) (fun w hI => ⟨zb (by simp_all [qI, wF]), hI.keep⟩)
  try simp only [zq] at g28
  refine g [[11]] ?_;refine WP.ret1 rfl rfl rfl (RV.tmp rfl) (fun w hI => ⟨zb (by simp_all [qI, wF]), hI.keep⟩)
theorem K8 (X : Till) (a1 : Option Addr) (n1 c1 : Nat) (D : Imm) (w : World) (hR : TksR D X.tk a1 n1) (hH : Holds D w) (n : Int) : z8 Tryz.prog 349 [.agg #[], .agg #[it X.tk.huts, .slice a1 n1 c1, it X.price, it X.fine, it X.wait], it n] w (spV (yj X.tk n)) := by
  unfold z8;obtain rfl := hR.tick.len';have hl1 := hR.len;have hmn := j0 X.tk n;refine en Tryz.func349 rfl Tryz.ntmps349 (Inv.start hH) (g [[1],[1,0,1,2]] ?_);refine WL.so (SO.box rfl rfl) rfl (zw fun b3 hb3 => ?_);refine WL.so (SO.box rfl rfl) rfl (zw fun b4 hb4 => ?_);refine WL.so (SO.alloc ZvF.h rfl) rfl (zw fun b6 hb6 => ?_);refine g [[3],[5,6,4,2]] ?_;refine WL.cl rfl (fun w hI => Vh X.tk a1 _ c1 D _ hR hI.imm n) (g [[4]] ?_);refine WL.so (SO.alloc ZvF.h rfl) rfl (zw fun b7 hb7 => ?_);refine WL.so (SO.alloc ZvF.h rfl) rfl (zw fun b8 hb8 => ?_);refine g [[6],[5,8,7,6]] ?_;refine WL.know 20 (it (ze X.tk n).2.1.lo) rfl rfl (WL.know 22 (it (ze X.tk n).1.hi) rfl rfl (g [[1]] ?_));refine WL.yd (Yd.max2 rfl rfl) rfl (WL.yd (Yd.quo rfl rfl (by omega) (by omega) (wr64 ⟨by omega, by omega⟩)) rfl (g [[4]] ?_));refine WL.know 27 (it (ze X.tk n).2.1.hi) rfl rfl (WL.know 29 (it (ze X.tk n).1.lo) rfl rfl (g [[1]] ?_));refine WL.yd (Yd.quo rfl rfl (by omega) (by omega) (wr64 ⟨by omega, by omega⟩)) rfl (g [[5]] ?_);refine WP.ret1 rfl rfl rfl (RV.cellN AgF.h SzF.h rfl (vs := [_, _]) rfl (RdN.own (k := 2) (n := 2) rfl rfl)) (fun w hI => ⟨rfl, hI.keep⟩)
theorem zbl (p n : Int) (w : World) (h : -9000000000 ≤ p * n ∧ p * n ≤ 9000000000) : z8 Tryz.prog 105 [it p, it n] w (it (p * n)) := by
  unfold z8;refine en Tryz.func105 rfl Tryz.ntmps105 zI (g [[1],[5,0,1],[8,4,0,1]] ?_);refine WP.ret1 rfl rfl rfl (RV.tmp rfl) (fun w hI => ⟨rfl, hI.keep⟩)
theorem zeb (p n : Int) (w : World) (h : -9000000000 ≤ p + n ∧ p + n ≤ 9000000000) : z8 Tryz.prog 187 [it p, it n] w (it (p + n)) := by
  unfold z8;refine en Tryz.func187 rfl Tryz.ntmps187 zI (g [[1],[5,0,1],[8,4,0,1]] ?_);refine WP.ret1 rfl rfl rfl (RV.tmp rfl) (fun w hI => ⟨rfl, hI.keep⟩)
theorem Vq (X : Till) (a1 : Option Addr) (n1 c1 : Nat) (D : Imm) (w : World) (hR : TksR D X.tk a1 n1) (hH : Holds D w) (hbt : yx X = true) (n m : Int) : z8 Tryz.prog 347 [.agg #[], .agg #[it X.tk.huts, .slice a1 n1 c1, it X.price, it X.fine, it X.wait], it n, it m] w (.bool (Yl X n m)) := by
  unfold z8;obtain rfl := hR.tick.len';have hl1 := hR.len;have hwt := (uo hbt).2.2.2;have hwn := Yb X.tk n;refine en Tryz.func347 rfl Tryz.ntmps347 (Inv.start hH) (g [[1],[1,0,1,2,3]] ?_);refine WL.so (SO.box rfl rfl) rfl (zw fun b4 hb4 => ?_);refine WL.so (SO.box rfl rfl) rfl (zw fun b5 hb5 => ?_);refine g [[4],[4,8,5,4,2,3]] ?_;refine WL.cl rfl (fun w hI => K8 X a1 _ c1 D _ hR hI.imm n) ?_;refine WL.so (SO.alloc ZvF.h rfl) rfl (zw fun b9 hb9 => ?_);refine g [[5],[7,9,8,5,3]] ?_;refine WC.loopF (fun i : Nat => [(3, it m), (5, pt b5), (9, pt b9), (10, it ((yj X.tk n).lo + ((i : Nat) : Int)))]) (fun i => i ≤ ((yj X.tk n).hi - (yj X.tk n).lo + 1).toNat ∧ ∀ j : Nat, j < i → ¬ ((yj X.tk n).lo + (j : Int)) * X.wait = m) (fun i => ((yj X.tk n).hi - (yj X.tk n).lo + 1).toNat - i) 0 ⟨by omega, by intro j hj; omega⟩ ⟨rfl, rfl, rfl, by show some (it _) = some (it _); congr 2; push_cast; omega, trivial⟩ ?_;intro i ⟨hi, hd⟩;refine g [[2],[7,3,5,9,10]] ?_;refine WC.cond rfl (fun c20 => ?_) (fun c20 => ?_)
  · try simp only [zq] at c20
    have hmm : 0 ≤ ((yj X.tk n).lo + (i : Int)) * X.wait ∧ ((yj X.tk n).lo + (i : Int)) * X.wait ≤ 2400 := by rw [Int.mul_comm]; exact Ug hwt (by omega)
    refine g [[5],[5,3,5,9,10]] ?_;refine WL.know 26 (it X.wait) rfl rfl (g [[5]] ?_);refine WC.cond rfl (fun c29 => ?_) (fun c29 => ?_)
    · try simp only [zq] at c29
      refine g [[1],[10,3,5,9,10]] ?_;refine WP.ret1 rfl rfl rfl (RV.tmp rfl) (fun w hI => ⟨zb (Eq.symm (List.any_eq_true.2 ⟨_, vT.2 ⟨by omega, by omega⟩, decide_eq_true c29⟩)), hI.keep⟩)
    try simp only [zq] at c29
    refine g [[3],[5,3,5,9,10]] ?_;exact WP.againF (i + 1) ⟨by omega, zZ hd c29⟩ (by omega) ⟨rfl, rfl, rfl, by show some (it _) = some (it _); congr 2; push_cast; omega, trivial⟩ (fun _ h => h) (fun h => h)
  try simp only [zq] at c20
  refine g [[6]] ?_;refine WC.ofFr [] trivial (g [[5]] ?_)
  refine WP.ret1 rfl rfl rfl (RV.tmp rfl) (fun w hI => ⟨zb (Eq.symm (by
    unfold Yl;rw [List.any_eq_false];intro k hk;have h1 := vT.1 hk;have h2 := hd (k - (yj X.tk n).lo).toNat (by omega);rw [show (yj X.tk n).lo + (((k - (yj X.tk n).lo).toNat : Nat) : Int) = k by omega] at h2;simpa using h2)), hI.keep⟩)
def intC (x : Int) : List Value := [it x]
theorem zJ : ∀ x, (intC x).length = 1 := fun _ => rfl
theorem Jb (f : Nat → Int) (n : Nat) : ((List.range n).map f).flatMap intC = (List.range n).map fun i => it (f i) := by
  rw [List.flatMap_map]
  induction n with
  | zero => rfl
  | succ n ih => rw [List.range_succ, List.flatMap_append, List.map_append, ih]; rfl
theorem jV {α : Type} (f : Nat → α) (k : Nat) : (List.range (k + 1)).map f = (List.range k).map f ++ [f k] := by rw [List.range_succ, List.map_append]; rfl
theorem W2 {l : List Int} {k : Nat} (hk : k < l.length) : (l.take (k + 1)).sum = (l.take k).sum + gt l k := by
  have hg : gt l k = l[k] := by simp [gt, List.getD, hk]
  rw [List.take_succ_eq_append_getElem hk, List.sum_append, hg];simp
theorem UY {l : List Int} (h : ∀ k, k < l.length → -100000 ≤ gt l k ∧ gt l k ≤ 100000) : ∀ k, k ≤ l.length → -100000 * (k : Int) ≤ (l.take k).sum ∧ (l.take k).sum ≤ 100000 * (k : Int) := by
  intro k
  induction k with
  | zero => intro _; simp
  | succ k ih =>
    intro hk;have h1 := ih (by omega);have h2 := h k (by omega);rw [W2 (by omega)];omega
theorem UZ (p : Int) (n : Nat) : ((List.range n).map fun _ => p).sum = p * n := by
  induction n with
  | zero => simp
  | succ n ih =>
    rw [jV, List.sum_append, ih];simp [Int.mul_add]
theorem Xm (n : Nat) (hn : n ≤ 1000) (fi : FuncId) (cp : List Value) (f : Nat → Int) (D : Imm) (w : World) (hH : Holds D w) (hfi : ∀ args w, (callFunc fi args).run Tryz.prog w = .ok (.enter fi args) w) (hF : ∀ i, i < n → ∀ w', Holds D w' → z8 Tryz.prog fi (nt i :: cp) w' (it (f i))) : y6 Tryz.prog 103 [nt n, .agg #[.func (.func fi) #[] cp.toArray]] w D (fun v D' => ∃ a c, v = .slice a n c ∧ SlL D' 1 (((List.range n).map f).map intC) a n) := by
  unfold y6;refine en Tryz.func103 rfl Tryz.ntmps103 (Inv.start hH) (g [[1],[1,0,1]] ?_);refine WL.so (SO.box rfl rfl) rfl (zw fun b3 hb3 => ?_);refine g [[5],[6,4,3,0]] ?_;refine WC.loopT [_] (fun y : Nat × Option Ow => [(3, pt b3), (4, owV y.2 y.1), (6, nt n), (7, nt y.1)]) (fun y => owH y.2 161 ((List.range y.1).map fun i => it (f i)) []) (fun y => y.1 ≤ n ∧ owP w y.2 y.1 1) (fun y => n - y.1) (0, none) ⟨by omega, rfl⟩ rfl ⟨rfl, rfl, rfl, rfl, trivial⟩ ?_;rintro ⟨k, o⟩ ⟨hk, ho⟩;dsimp only at hk ho;refine g [[1],[5,3,4,6,7]] ?_;refine WC.cond rfl (fun c8 => ?_) (fun c8 => ?_)
  · try simp only [zq] at c8
    have hkn : k < n := by omega
    refine g [[5],[5,3,4,6,7],[5,5,3,4,6,7]] ?_;refine WL.so (SO.call (Enters.val hfi rfl rfl) (fun w hI => hF k hkn _ hI.imm)) rfl (zs ?_);refine WL.so (SO.buildSlice UnF.h SzF.h ZvF.h rfl rfl rfl rfl (cs := [_]) rfl) rfl ?_;rintro _ _ _ ⟨b15, hb15, rfl, rfl, rfl⟩;refine WL.so (SO.appendOw (o := o) (len := k) (n := 1) (xs := ((List.range k).map fun i => it (f i))) (size := 1) [_] [_] [] rfl rfl Tryz.underlying163 Tryz.sizeOf161 Tryz.typeInfo161 Tryz.zeroValue161 rfl rfl rfl rfl ⟨rfl, .inr ⟨_, _, _, rfl, RdN.own (k := 0) (n := 1) rfl rfl⟩⟩ (za rfl) ho (by simp) (by omega) (by show (2 * (_ + _) + 1000) * 8 ≤ 2 ^ 48; omega) (by omega)) rfl ?_;rintro _ _ _ ⟨u1, hu1, rfl, rfl, rfl⟩;refine g [[4],[4,4,3,6,7]] ?_;exact WP.againT (⟨k + 1, some u1⟩ : Nat × Option Ow) ⟨by simp only; omega, hu1⟩ (by simp only; omega) [] _ rfl (by show _ = _ ++ owH (some u1) _ ((List.range (k + 1)).map fun i => it (f i)) []; rw [jV]; rfl) ⟨rfl, rfl, rfl, rfl, trivial⟩
  try simp only [zq] at c8
  obtain rfl : k = n := by omega
  refine g [[6],[1,4]] ?_;refine WL.freezeOw (f := intC) (m := 1) zJ [_] [] o 161 ((List.range k).map f) rfl (by simpa using ho) (by rw [Jb]) (fun D2 hX2 hS2 => ?_);rw [List.length_map, List.length_range] at hS2;refine g [[5]] ?_;refine WP.ret1 rfl rfl rfl (RV.tmp rfl) (fun w1 hI => ⟨_, D2, rfl, hI.keep, hI.imm, hX2, owAt o, _, xg (wt ho), hS2⟩)
theorem Qd (l : List Int) (a : Option Addr) (n c : Nat) (D : Imm) (w : World) (hS : SlL D 1 (l.map intC) a n) (hn : n ≤ 1000) (hb : ∀ k, k < l.length → -100000 ≤ gt l k ∧ gt l k ≤ 100000) (hH : Holds D w) : z8 Tryz.prog 102 [.slice a n c] w (it l.sum) := by
  unfold z8;obtain rfl := hS.len';refine en Tryz.func102 rfl Tryz.ntmps102 (Inv.start hH) (g [[1],[5,0],[6,2,0],[7,3,2,0]] ?_);refine WC.loopF (fun k : Nat => [(2, it (l.take k).sum), (3, .func (.func 187) #[] #[]), (6, .slice a l.length c), (7, nt l.length), (8, nt k)]) (fun k => k ≤ l.length) (fun k => l.length - k) 0 (by omega) ⟨rfl, rfl, rfl, rfl, rfl, trivial⟩ ?_;intro k hk;refine g [[1],[5,2,3,6,7,8]] ?_;refine WC.cond rfl (fun c9 => ?_) (fun c9 => ?_)
  · try simp only [zq] at c9
    have hkl : k < l.length := by omega
    have hst := W2 hkl;have hb1 := UY hb k (by omega);have hb2 := hb k hkl;refine g [[5],[1,2,3,6,7,8]] ?_;refine WL.yd (Yd.ix rfl rfl (hS.addr k (by omega))) rfl (WL.yd (Yd.l1 rfl ((hS.at k (by omega)).rd 0 rfl)) rfl (g [[3],[4,5,2,3,6,7,8]] ?_));refine WL.so (SO.call (Enters.val CaF.h rfl rfl) (fun w hI => zeb (l.take k).sum (gt l k) _ (by omega))) rfl (zs (g [[4],[4,2,3,6,7,8]] ?_));exact WP.againF (k + 1) (by omega) (by omega) ⟨by rw [hst]; rfl, rfl, rfl, rfl, rfl, trivial⟩ (fun _ h => h) (fun h => h)
  try simp only [zq] at c9
  obtain rfl : k = l.length := by omega
  refine g [[6],[6,2]] ?_;refine WP.ret1 rfl rfl rfl (RV.tmp rfl) (fun w hI => ⟨by rw [List.take_length], hI.keep⟩)
theorem zdP : zj Tryz.prog 167 [.nilFunc] [(0, 1)] := ⟨⟨_, Tryz.zeroValue167, rfl⟩, _, Tryz.underlying167, fun w => by simp [Tryz.sizeOf165]⟩
abbrev zbG := SaF.mk zdP
attribute [instance] zbG
theorem ue (X : Till) (a1 : Option Addr) (n1 c1 : Nat) (D : Imm) (w : World) (hR : TksR D X.tk a1 n1) (hH : Holds D w) (l : List Ent) (ab : Option Addr) (nb cb : Nat) (hB : xL D l ab nb) (fi : FuncId) (cp : List Value) (is : Bool) (hfi : ∀ args w, (callFunc fi args).run Tryz.prog w = .ok (.enter fi args) w) (hIs : ∀ w', Holds D w' → z8 Tryz.prog fi (.agg #[it X.tk.huts, .slice a1 n1 c1, it X.price, it X.fine, it X.wait] :: cp) w' (.bool is)) (h : yq X l is = 0) : z8 Tryz.prog 97 [.agg #[it X.tk.huts, .slice a1 n1 c1, it X.price, it X.fine, it X.wait], .slice ab nb cb, .func (.func fi) #[] cp.toArray] w (.agg #[it X.tk.huts, .slice a1 n1 c1, it X.price, it X.fine, it X.wait]) := (Us X a1 n1 c1 D w hR hH l ab nb cb hB fi cp is hfi hIs).mono fun e w' ⟨h1, h2⟩ => ⟨by rw [h1, h]; rfl, h2⟩
theorem kI (X : Till) (a1 : Option Addr) (n1 c1 : Nat) (D : Imm) (w : World) (hR : TksR D X.tk a1 n1) (hH : Holds D w) (l : List Ent) (ab : Option Addr) (nb cb : Nat) (hB : xL D l ab nb) (fi : FuncId) (cp : List Value) (is : Bool) (hfi : ∀ args w, (callFunc fi args).run Tryz.prog w = .ok (.enter fi args) w) (hIs : ∀ w', Holds D w' → z8 Tryz.prog fi (.agg #[it X.tk.huts, .slice a1 n1 c1, it X.price, it X.fine, it X.wait] :: cp) w' (.bool is)) (h : yq X l is ≠ 0) : xC Tryz.prog 97 [.agg #[it X.tk.huts, .slice a1 n1 c1, it X.price, it X.fine, it X.wait], .slice ab nb cb, .func (.func fi) #[] cp.toArray] w (UV (yq X l is)) := (Us X a1 n1 c1 D w hR hH l ab nb cb hB fi cp is hfi hIs).mono fun e w' ⟨h1, h2⟩ => ⟨by rw [h1]; unfold WM; rw [if_neg h], h2⟩
theorem uy (T : Tks) : (y7 T).2 = tksE T true := by
  unfold y7;split
  · rfl
  rename_i h; simpa using (Classical.not_not.1 h).symm
def U4 : Nat → Value
  | 0 => .nilIface
  | 1 => .iface 321 (.agg #[])
  | 2 => .iface 323 (.agg #[])
  | _ => .iface 324 (.agg #[])
def Ku : List Value := [.nilIface, .iface 321 (.agg #[]), .iface 323 (.agg #[]), .iface 324 (.agg #[])]
theorem zdc (X : Till) (s1 : Value) (b1 : Nat) (D : Imm) (h1 : D b1 = some (.cells (List.toArray (Q2 X s1)) 156 (0, 0))) (v : Value) (w : World) (hH : Holds D w) : z8 Tryz.prog 147 [v, pt b1] w (it X.price) := by
  unfold z8;refine en Tryz.func147 rfl Tryz.ntmps147 (Inv.start hH) (g [[1],[5,1],[8,3,1]] ?_);refine WP.ret1 rfl rfl rfl (RV.tmp rfl) (fun w hI => ⟨rfl, hI.keep⟩)
theorem Wp (X : Till) (a1 : Option Addr) (n1 c1 : Nat) (D : Imm) (w : World) (hR : TksR D X.tk a1 n1) (hH : Holds D w) (hE : yq X [] true ≠ 0) : z8 Tryz.prog 65 [.agg #[it X.tk.huts, .slice a1 n1 c1, it X.price, it X.fine, it X.wait]] w (.tuple #[it (yg X).1, it (yg X).2]) := by
  unfold z8;obtain rfl := hR.tick.len';have hl1 := hR.len
  have hb0 : yx X = false := by
    cases hb : yx X with
    | false => rfl
    | true => exact absurd (Q3 hb (by simp) rfl (by intro k hk; simp at hk)) hE
  have hO0 : yg X = (0, 1) := by unfold yg; rw [if_pos hb0]
  have hE1 : yq X [] true = 1 := jj hb0;refine enD Tryz.func65 rfl Tryz.ntmps65 (Inv.start hH) (g [[1],[1,0]] ?_);refine WL.so (SO.box rfl rfl) rfl (zw fun b1 hb1 => ?_);refine g [[1]] ?_;refine WL.so (SO.alloc ZvF.h rfl) rfl (zw fun b3 hb3 => ?_);refine g [[3],[2,3,2,1]] ?_;refine WL.defer rfl (g [[3],[2,3,2,1]] ?_);refine WL.nf rfl (fun w hI => kI X a1 _ c1 D _ hR hI.imm [] none 0 0 (xL.nil _) 98 [] true CaF.h (fun w' _ => wa (.bool true) X a1 _ c1 w') hE) (g [[1]] ?_);refine WP.panicD (k := 0) [_, _] [_, _] rfl CaF.h rfl (fun w hI => QJ _ _ _ _ _ (hI.own _ _ (List.mem_of_getElem? (i := 0) rfl))) rfl zV (fun w hI => ⟨congrArg Ending.returned (by rw [hO0, hE1]; rfl), hI.keep⟩)
theorem Wq (X : Till) (a1 : Option Addr) (n1 c1 : Nat) (D : Imm) (w : World) (hR : TksR D X.tk a1 n1) (hH : Holds D w) (hE : yq X [] true = 0) : z8 Tryz.prog 65 [.agg #[it X.tk.huts, .slice a1 n1 c1, it X.price, it X.fine, it X.wait]] w (.tuple #[it (yg X).1, it (yg X).2]) := by
  unfold z8;obtain rfl := hR.tick.len';have hl1 := hR.len;have hO0 : yg X = (X.price * X.tk.l.length, 0) := by unfold yg; rw [if_neg (by rw [(vo hE).1]; simp)]
  refine enD Tryz.func65 rfl Tryz.ntmps65 (Inv.start hH) (g [[1],[1,0]] ?_);refine WL.so (SO.box rfl rfl) rfl (zw fun b1 hb1 => ?_);refine g [[1]] ?_;refine WL.so (SO.alloc ZvF.h rfl) rfl (zw fun b3 hb3 => ?_);refine g [[3],[2,3,2,1]] ?_;refine WL.defer rfl (g [[3],[2,3,2,1]] ?_);refine WL.cl rfl (fun w hI => ue X a1 _ c1 D _ hR hI.imm [] none 0 0 (xL.nil _) 98 [] true CaF.h (fun w' _ => wa (.bool true) X a1 _ c1 w') hE) ?_;refine WL.so (SO.alloc ZvF.h rfl) rfl (zw fun b4 hb4 => ?_);refine g [[4]] ?_;refine WC.freezeN 0 b4 (.cells (List.toArray (Q2 X (.slice a1 X.tk.l.length c1))) 156 (0, 0)) rfl rfl hb4 (fun D1 hX1 h4 => ?_);replace hR := hR.ext hX1;refine g [[2,4,3,2]] ?_;refine WL.cl rfl (fun w hI => Ud X a1 _ c1 _) (g [[2]] ?_);refine WL.so (SO.makes (Enters.func Tryz.call103 rfl) (fun w hI => Xm X.tk.l.length hl1 147 [pt b4] (fun _ => X.price) D1 _ hI.imm Tryz.call147 (fun i _ w' hH' => zdc X _ b4 D1 h4 (nt i) w' hH'))) rfl ?_;rintro _ D2 _ ⟨hX2, ⟨a9, c9, rfl, hS9⟩, rfl⟩;refine WL.cl rfl (fun w hI => Qd ((List.range X.tk.l.length).map fun _ => X.price) a9 _ c9 D2 _ hS9 hl1 (by intro k hk; have hpr := (uo (vo hE).1).2.1; simp [gt, List.getD] at hk ⊢; simp [hk]; omega) hI.imm) (g [[5]] ?_);refine WP.endD [_, _] [_, _] rfl rfl CaF.h (fun w hI => zaq _ _) rfl zV (fun w hI => ⟨congrArg Ending.returned (by rw [hO0, UZ]; rfl), hI.keep⟩)
theorem Vm (X : Till) (a1 : Option Addr) (n1 c1 : Nat) (D : Imm) (w : World) (hR : TksR D X.tk a1 n1) (hH : Holds D w) : z8 Tryz.prog 65 [.agg #[it X.tk.huts, .slice a1 n1 c1, it X.price, it X.fine, it X.wait]] w (.tuple #[it (yg X).1, it (yg X).2]) := by
  by_cases hE : yq X [] true = 0
  · exact Wq X a1 n1 c1 D w hR hH hE
  exact Wp X a1 n1 c1 D w hR hH hE
theorem Q7 {X : Till} {l : List Ent} (h : yq X l true ≠ 0) : uQ X l = yq X l true := by unfold uQ; rw [if_pos h]
theorem Z3 {X : Till} {l : List Ent} (h : yq X l true = 0) : uQ X l = tksE X.tk true := by unfold uQ; rw [if_neg (by rw [h]; simp)]
end Go.Proofs.YtejgofaeafphjaaGreatDoor
