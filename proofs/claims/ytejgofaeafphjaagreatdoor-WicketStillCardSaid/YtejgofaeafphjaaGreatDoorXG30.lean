import Derived.Test.YtejgofaeafphjaaGreatDoorXG29
import Derived.Test.YtejgofaeafphjaaGreatDoorXG16
import Derived.Test.YtejgofaeafphjaaGreatDoorXG7
set_option linter.all false
set_option maxRecDepth 100000
set_option maxHeartbeats 4000000
attribute [local irreducible] Go.W.WL Go.W.WLF Go.W.WC Go.W.WCF Go.W.WP Go.W.WA Go.W.WQ Go.W.WH Go.W.WHo Go.W.WCn Go.W.Yd Go.W.Qt Go.W.SO Go.Code.wp Go.Code.wpIn
namespace Go.Proofs.YtejgofaeafphjaaGreatDoor
open Go.W Go.Ti
theorem W6 (T : Tide) (a1 a2 a3 : Option Addr) (n1 n2 n3 c1 c2 c3 : Nat) (D : Imm) (w : World) (hR : yo D T a1 n1 a2 n2 a3 n3) (hH : Holds D w) : z8 Tryz.prog 14 [.agg #[.slice a1 n1 c1, .slice a2 n2 c2, .slice a3 n3 c3]] w (.bool (zQ T)) := by
  unfold z8;obtain rfl := hR.mark.len';obtain rfl := hR.sand.len';obtain rfl := hR.look.len';obtain ⟨hl1, hl2, hl3⟩ := hR.len;refine en Tryz.func14 rfl Tryz.ntmps14 (Inv.start hH) (g [[1],[1,0]] ?_);refine WL.so (SO.box rfl rfl) rfl (zw fun b1 hb1 => ?_);refine g [[5],[4,2,1]] ?_;refine WL.cl rfl (fun w hI => ZC _ _ _ _) (g [[2]] ?_);refine WL.part 13 rfl (fun g13 => ?_) (fun g13 => ?_)
  · try simp only [zq] at g13
    refine g [[16],[6,2,1]] ?_;refine WP.ret1 rfl rfl rfl (RV.tmp rfl) (fun w hI => ⟨zb ?_, hI.keep⟩)
    first
      | exact (x9 (by assumption) (by assumption) (by assumption) hmk hsd (fun i hi => hd i (by omega))).symm
      | (symm
         refine yf fun hT => ?_
         first
           | (have h1 := hT.nm; have h2 := hT.ns; have h3 := hT.nl; simp_all [inB]; done)
           | (have h1 := hT.nm; have h2 := hT.ns; have h3 := hT.nl; simp_all [inB]; omega)
           | (have h1 := vS hT (k := k) (by omega); simp_all [y2]; done)
           | (have h1 := vS hT (k := k) (by omega); simp_all [y2]; omega)
           | (have h1 := hT.sand k (by omega); simp_all [y2]; done)
           | (have h1 := hT.sand k (by omega); simp_all [y2]; omega)
           | (have h1 := hT.look k (by omega); simp_all [lookB]; done))
  try simp only [zq] at g13
  refine g [[3]] ?_;refine WL.sog rfl (SO.callP CaF.h rfl (fun w hI => ZC _ _ _ _)) rfl (zs (g [[3]] ?_));refine WL.part 20 rfl (fun g20 => ?_) (fun g20 => ?_)
  · try simp only [zq] at g20
    refine g [[9],[6,2,1]] ?_;refine WP.ret1 rfl rfl rfl (RV.tmp rfl) (fun w hI => ⟨zb ?_, hI.keep⟩)
    first
      | exact (x9 (by assumption) (by assumption) (by assumption) hmk hsd (fun i hi => hd i (by omega))).symm
      | (symm
         refine yf fun hT => ?_
         first
           | (have h1 := hT.nm; have h2 := hT.ns; have h3 := hT.nl; simp_all [inB]; done)
           | (have h1 := hT.nm; have h2 := hT.ns; have h3 := hT.nl; simp_all [inB]; omega)
           | (have h1 := vS hT (k := k) (by omega); simp_all [y2]; done)
           | (have h1 := vS hT (k := k) (by omega); simp_all [y2]; omega)
           | (have h1 := hT.sand k (by omega); simp_all [y2]; done)
           | (have h1 := hT.sand k (by omega); simp_all [y2]; omega)
           | (have h1 := hT.look k (by omega); simp_all [lookB]; done))
  try simp only [zq] at g20
  refine g [[7]] ?_;refine WC.cond rfl (fun c25 => ?_) (fun c25 => ?_)
  · try simp only [zq] at c25
    refine g [[1],[6,2,1]] ?_;refine WP.ret1 rfl rfl rfl (RV.tmp rfl) (fun w hI => ⟨zb ?_, hI.keep⟩)
    first
      | exact (x9 (by assumption) (by assumption) (by assumption) hmk hsd (fun i hi => hd i (by omega))).symm
      | (symm
         refine yf fun hT => ?_
         first
           | (have h1 := hT.nm; have h2 := hT.ns; have h3 := hT.nl; simp_all [inB]; done)
           | (have h1 := hT.nm; have h2 := hT.ns; have h3 := hT.nl; simp_all [inB]; omega)
           | (have h1 := vS hT (k := k) (by omega); simp_all [y2]; done)
           | (have h1 := vS hT (k := k) (by omega); simp_all [y2]; omega)
           | (have h1 := hT.sand k (by omega); simp_all [y2]; done)
           | (have h1 := hT.sand k (by omega); simp_all [y2]; omega)
           | (have h1 := hT.look k (by omega); simp_all [lookB]; done))
  try simp only [zq] at c25
  refine g [[4],[5,2,1]] ?_;refine WC.loopF (fun k : Nat => [(1, pt b1), (3, nt k)]) (fun k => k ≤ T.marks.length ∧ ∀ i, i < k → qW T i = true) (fun k => T.marks.length - k) 0 ⟨by omega, by intro i hi; omega⟩ ⟨rfl, rfl, trivial⟩ ?_;intro k ⟨hk, hd⟩;refine g [[2],[8,1,3]] ?_;refine WC.cond rfl (fun c30 => ?_) (fun c30 => ?_)
  · try simp only [zq] at c30
    have hkl : k < T.marks.length := by omega
    have hrk : 0 < k → ∀ hp, Rd D hp ⟨sb a1, so a1 + ((k : Int) - 1).toNat * 3 + 0, none⟩ (it (gt T.marks (k - 1)).minute) := fun h0 hp => by
      rw [show ((k : Int) - 1).toNat = k - 1 by omega]; exact (hR.mark.at (k - 1) (by omega)).rd 0 rfl
    refine g [[5],[4,1,3]] ?_;refine WL.yd (Yd.indexS UnF.h SzF.h rfl rfl (by first | omega | (have hh := zc.1 (show zA (gt T.marks k).high = true by assumption); omega) | (have hh := zc.1 (show zA (gt T.sand k) = true by assumption); omega) | (have hh := (zl.1 (hd (k - 1) (by omega))).1.1; omega)) (by first | omega | (have hh := zc.1 (show zA (gt T.marks k).high = true by assumption); omega) | (have hh := zc.1 (show zA (gt T.sand k) = true by assumption); omega) | (have hh := (zl.1 (hd (k - 1) (by omega))).1.1; omega)) (hR.mark.addr k (by omega))) rfl ?_;refine WL.yd (Yd.lV [_, _, _] rfl ((hR.mark.at k (by omega)).rdn 0 3 rfl)) rfl ?_;refine WL.so (SO.alloc ZvF.h rfl) rfl (zw fun b4 hb4 => ?_);refine g [[5],[3,4,1,3]] ?_;refine WL.cl rfl (fun w hI => ZC _ _ _ _) (g [[2]] ?_);refine WL.part 42 rfl (fun g42 => ?_) (fun g42 => ?_)
    · try simp only [zq] at g42
      refine g [[19],[11,4,1,3]] ?_;refine WP.ret1 rfl rfl rfl (RV.tmp rfl) (fun w hI => ⟨zb ?_, hI.keep⟩)
      first
        | exact (x9 (by assumption) (by assumption) (by assumption) hmk hsd (fun i hi => hd i (by omega))).symm
        | (symm
           refine yf fun hT => ?_
           first
             | (have h1 := hT.nm; have h2 := hT.ns; have h3 := hT.nl; simp_all [inB]; done)
             | (have h1 := hT.nm; have h2 := hT.ns; have h3 := hT.nl; simp_all [inB]; omega)
             | (have h1 := vS hT (k := k) (by omega); simp_all [y2]; done)
             | (have h1 := vS hT (k := k) (by omega); simp_all [y2]; omega)
             | (have h1 := hT.sand k (by omega); simp_all [y2]; done)
             | (have h1 := hT.sand k (by omega); simp_all [y2]; omega)
             | (have h1 := hT.look k (by omega); simp_all [lookB]; done))
    try simp only [zq] at g42
    refine g [[2]] ?_;refine WL.sog rfl (SO.callP CaF.h rfl (fun w hI => kV ⟨_, _⟩ _)) rfl (zs (g [[3]] ?_));refine WL.part 48 rfl (fun g48 => ?_) (fun g48 => ?_)
    · try simp only [zq] at g48
      refine g [[13],[11,4,1,3]] ?_;refine WP.ret1 rfl rfl rfl (RV.tmp rfl) (fun w hI => ⟨zb ?_, hI.keep⟩)
      first
        | exact (x9 (by assumption) (by assumption) (by assumption) hmk hsd (fun i hi => hd i (by omega))).symm
        | (symm
           refine yf fun hT => ?_
           first
             | (have h1 := hT.nm; have h2 := hT.ns; have h3 := hT.nl; simp_all [inB]; done)
             | (have h1 := hT.nm; have h2 := hT.ns; have h3 := hT.nl; simp_all [inB]; omega)
             | (have h1 := vS hT (k := k) (by omega); simp_all [y2]; done)
             | (have h1 := vS hT (k := k) (by omega); simp_all [y2]; omega)
             | (have h1 := hT.sand k (by omega); simp_all [y2]; done)
             | (have h1 := hT.sand k (by omega); simp_all [y2]; omega)
             | (have h1 := hT.look k (by omega); simp_all [lookB]; done))
    try simp only [zq] at g48
    refine g [[6]] ?_;refine WL.ydg rfl (Yd.sub rfl rfl (wr64 ⟨by first | omega | (have hh := zc.1 (show zA (gt T.marks k).high = true by assumption); omega) | (have hh := zc.1 (show zA (gt T.sand k) = true by assumption); omega) | (have hh := (zl.1 (hd (k - 1) (by omega))).1.1; omega), by first | omega | (have hh := zc.1 (show zA (gt T.marks k).high = true by assumption); omega) | (have hh := zc.1 (show zA (gt T.sand k) = true by assumption); omega) | (have hh := (zl.1 (hd (k - 1) (by omega))).1.1; omega)⟩)) rfl (g [[4]] ?_);refine WC.cond rfl (fun c57 => ?_) (fun c57 => ?_)
    · try simp only [zq] at c57
      refine g [[1],[11,4,1,3]] ?_;refine WP.ret1 rfl rfl rfl (RV.tmp rfl) (fun w hI => ⟨zb ?_, hI.keep⟩)
      first
        | exact (x9 (by assumption) (by assumption) (by assumption) hmk hsd (fun i hi => hd i (by omega))).symm
        | (symm
           refine yf fun hT => ?_
           first
             | (have h1 := hT.nm; have h2 := hT.ns; have h3 := hT.nl; simp_all [inB]; done)
             | (have h1 := hT.nm; have h2 := hT.ns; have h3 := hT.nl; simp_all [inB]; omega)
             | (have h1 := vS hT (k := k) (by omega); simp_all [y2]; done)
             | (have h1 := vS hT (k := k) (by omega); simp_all [y2]; omega)
             | (have h1 := hT.sand k (by omega); simp_all [y2]; done)
             | (have h1 := hT.sand k (by omega); simp_all [y2]; omega)
             | (have h1 := hT.look k (by omega); simp_all [lookB]; done))
    try simp only [zq] at c57
    refine g [[3],[0,4,1,3],[3013],[3]] ?_;refine WQ.part 60 rfl (fun g60 => ?_) (fun g60 => ?_)
    · try simp only [zq] at g60
      refine g [[5]] ?_;refine WQ.qg rfl rfl (Yd.qt (Yd.sub rfl rfl (wr64 ⟨by first | omega | (have hh := zc.1 (show zA (gt T.marks k).high = true by assumption); omega) | (have hh := zc.1 (show zA (gt T.sand k) = true by assumption); omega) | (have hh := (zl.1 (hd (k - 1) (by omega))).1.1; omega), by first | omega | (have hh := zc.1 (show zA (gt T.marks k).high = true by assumption); omega) | (have hh := zc.1 (show zA (gt T.sand k) = true by assumption); omega) | (have hh := (zl.1 (hd (k - 1) (by omega))).1.1; omega)⟩))) rfl ?_;refine WQ.qg rfl rfl (Yd.qt (Yd.indexS UnF.h SzF.h rfl rfl (by first | omega | (have hh := zc.1 (show zA (gt T.marks k).high = true by assumption); omega) | (have hh := zc.1 (show zA (gt T.sand k) = true by assumption); omega) | (have hh := (zl.1 (hd (k - 1) (by omega))).1.1; omega)) (by first | omega | (have hh := zc.1 (show zA (gt T.marks k).high = true by assumption); omega) | (have hh := zc.1 (show zA (gt T.sand k) = true by assumption); omega) | (have hh := (zl.1 (hd (k - 1) (by omega))).1.1; omega)) (hR.mark.addr k (by omega)))) rfl (g [[1]] ?_);refine WQ.qg rfl rfl (Yd.qt (Yd.l1 rfl (hrk (by omega) _))) rfl ?_;refine WQ.qg rfl rfl (Yd.qt (Yd.add rfl rfl (wr64 ⟨by first | omega | (have hh := zc.1 (show zA (gt T.marks k).high = true by assumption); omega) | (have hh := zc.1 (show zA (gt T.sand k) = true by assumption); omega) | (have hh := (zl.1 (hd (k - 1) (by omega))).1.1; omega), by first | omega | (have hh := zc.1 (show zA (gt T.marks k).high = true by assumption); omega) | (have hh := zc.1 (show zA (gt T.sand k) = true by assumption); omega) | (have hh := (zl.1 (hd (k - 1) (by omega))).1.1; omega)⟩))) rfl (g [[5]] ?_);refine WC.cond rfl (fun c72 => ?_) (fun c72 => ?_)
      · try simp only [zq] at c72
        refine g [[1],[10,1,3]] ?_;refine WP.ret1 rfl rfl rfl (RV.tmp rfl) (fun w hI => ⟨zb ?_, hI.keep⟩)
        first
          | exact (x9 (by assumption) (by assumption) (by assumption) hmk hsd (fun i hi => hd i (by omega))).symm
          | (symm
             refine yf fun hT => ?_
             first
               | (have h1 := hT.nm; have h2 := hT.ns; have h3 := hT.nl; simp_all [inB]; done)
               | (have h1 := hT.nm; have h2 := hT.ns; have h3 := hT.nl; simp_all [inB]; omega)
               | (have h1 := vS hT (k := k) (by omega); simp_all [y2]; done)
               | (have h1 := vS hT (k := k) (by omega); simp_all [y2]; omega)
               | (have h1 := hT.sand k (by omega); simp_all [y2]; done)
               | (have h1 := hT.sand k (by omega); simp_all [y2]; omega)
               | (have h1 := hT.look k (by omega); simp_all [lookB]; done))
      try simp only [zq] at c72
      refine g [[3],[2,1,3]] ?_;refine WL.yd (Yd.add rfl rfl (wr64 ⟨by first | omega | (have hh := zc.1 (show zA (gt T.marks k).high = true by assumption); omega) | (have hh := zc.1 (show zA (gt T.sand k) = true by assumption); omega) | (have hh := (zl.1 (hd (k - 1) (by omega))).1.1; omega), by first | omega | (have hh := zc.1 (show zA (gt T.marks k).high = true by assumption); omega) | (have hh := zc.1 (show zA (gt T.sand k) = true by assumption); omega) | (have hh := (zl.1 (hd (k - 1) (by omega))).1.1; omega)⟩)) rfl (g [[2]] ?_);exact WP.againF (k + 1) ⟨by omega, zZ hd (kE (by simp_all) (by simp_all [y2]) (by first | (left; omega) | (right; omega)))⟩ (by omega) ⟨rfl, rfl, trivial⟩ zU1 zU2
    try simp only [zq] at g60
    refine g [[19],[2,1,3]] ?_;refine WL.yd (Yd.add rfl rfl (wr64 ⟨by first | omega | (have hh := zc.1 (show zA (gt T.marks k).high = true by assumption); omega) | (have hh := zc.1 (show zA (gt T.sand k) = true by assumption); omega) | (have hh := (zl.1 (hd (k - 1) (by omega))).1.1; omega), by first | omega | (have hh := zc.1 (show zA (gt T.marks k).high = true by assumption); omega) | (have hh := zc.1 (show zA (gt T.sand k) = true by assumption); omega) | (have hh := (zl.1 (hd (k - 1) (by omega))).1.1; omega)⟩)) rfl (g [[2]] ?_);exact WP.againF (k + 1) ⟨by omega, zZ hd (kE (by simp_all) (by simp_all [y2]) (by first | (left; omega) | (right; omega)))⟩ (by omega) ⟨rfl, rfl, trivial⟩ zU1 zU2
  try simp only [zq] at c30
  refine g [[7],[5,1]] ?_;have hmk : ∀ i, i < T.marks.length → qW T i = true := fun i hi => hd i (by omega);clear hd hk c30 k;refine WC.loopF (fun k : Nat => [(1, pt b1), (5, nt k)]) (fun k => k ≤ T.sand.length ∧ ∀ i, i < k → y2 (gt T.sand i) = true) (fun k => T.sand.length - k) 0 ⟨by omega, by intro i hi; omega⟩ ⟨rfl, rfl, trivial⟩ ?_;intro k ⟨hk, hd⟩;refine g [[2],[8,1,5]] ?_;refine WC.cond rfl (fun c77 => ?_) (fun c77 => ?_)
  · try simp only [zq] at c77
    have hkl : k < T.sand.length := by omega
    refine g [[5],[0,1,5],[3020],[3]] ?_;refine WQ.q rfl (Yd.qt (Yd.indexS UnF.h SzF.h rfl rfl (by first | omega | (have hh := zc.1 (show zA (gt T.marks k).high = true by assumption); omega) | (have hh := zc.1 (show zA (gt T.sand k) = true by assumption); omega) | (have hh := (zl.1 (hd (k - 1) (by omega))).1.1; omega)) (by first | omega | (have hh := zc.1 (show zA (gt T.marks k).high = true by assumption); omega) | (have hh := zc.1 (show zA (gt T.sand k) = true by assumption); omega) | (have hh := (zl.1 (hd (k - 1) (by omega))).1.1; omega)) (hR.sand.addr k (by omega)))) rfl ?_;refine WQ.q rfl (Yd.qt (Yd.lV [_, _] rfl ((hR.sand.at k (by omega)).rdn 0 2 rfl))) rfl (WQ.q rfl (Qt.callP CaF.h rfl (fun w hI => kV ⟨_, _⟩ _)) rfl (g [[2]] ?_));refine WQ.part 87 rfl (fun g87 => ?_) (fun g87 => ?_)
    · try simp only [zq] at g87
      refine g [[20],[10,1,5]] ?_;refine WP.ret1 rfl rfl rfl (RV.tmp rfl) (fun w hI => ⟨zb ?_, hI.keep⟩)
      first
        | exact (x9 (by assumption) (by assumption) (by assumption) hmk hsd (fun i hi => hd i (by omega))).symm
        | (symm
           refine yf fun hT => ?_
           first
             | (have h1 := hT.nm; have h2 := hT.ns; have h3 := hT.nl; simp_all [inB]; done)
             | (have h1 := hT.nm; have h2 := hT.ns; have h3 := hT.nl; simp_all [inB]; omega)
             | (have h1 := vS hT (k := k) (by omega); simp_all [y2]; done)
             | (have h1 := vS hT (k := k) (by omega); simp_all [y2]; omega)
             | (have h1 := hT.sand k (by omega); simp_all [y2]; done)
             | (have h1 := hT.sand k (by omega); simp_all [y2]; omega)
             | (have h1 := hT.look k (by omega); simp_all [lookB]; done))
    try simp only [zq] at g87
    refine g [[3]] ?_;refine WQ.qg rfl rfl (Yd.qt (Yd.indexS UnF.h SzF.h rfl rfl (by first | omega | (have hh := zc.1 (show zA (gt T.marks k).high = true by assumption); omega) | (have hh := zc.1 (show zA (gt T.sand k) = true by assumption); omega) | (have hh := (zl.1 (hd (k - 1) (by omega))).1.1; omega)) (by first | omega | (have hh := zc.1 (show zA (gt T.marks k).high = true by assumption); omega) | (have hh := zc.1 (show zA (gt T.sand k) = true by assumption); omega) | (have hh := (zl.1 (hd (k - 1) (by omega))).1.1; omega)) (hR.sand.addr k (by omega)))) rfl (g [[1]] ?_);refine WQ.qg rfl rfl (Yd.qt (Yd.l1 rfl ((hR.sand.at k (by omega)).rd 1 rfl))) rfl (g [[3]] ?_);refine WQ.qg rfl rfl (Yd.qt (Yd.indexS UnF.h SzF.h rfl rfl (by first | omega | (have hh := zc.1 (show zA (gt T.marks k).high = true by assumption); omega) | (have hh := zc.1 (show zA (gt T.sand k) = true by assumption); omega) | (have hh := (zl.1 (hd (k - 1) (by omega))).1.1; omega)) (by first | omega | (have hh := zc.1 (show zA (gt T.marks k).high = true by assumption); omega) | (have hh := zc.1 (show zA (gt T.sand k) = true by assumption); omega) | (have hh := (zl.1 (hd (k - 1) (by omega))).1.1; omega)) (hR.sand.addr k (by omega)))) rfl (g [[1]] ?_);refine WQ.qg rfl rfl (Yd.qt (Yd.l1 rfl ((hR.sand.at k (by omega)).rd 0 rfl))) rfl (g [[1]] ?_);refine WL.ydg rfl (Yd.sub rfl rfl (wr64 ⟨by first | omega | (have hh := zc.1 (show zA (gt T.marks k).high = true by assumption); omega) | (have hh := zc.1 (show zA (gt T.sand k) = true by assumption); omega) | (have hh := (zl.1 (hd (k - 1) (by omega))).1.1; omega), by first | omega | (have hh := zc.1 (show zA (gt T.marks k).high = true by assumption); omega) | (have hh := zc.1 (show zA (gt T.sand k) = true by assumption); omega) | (have hh := (zl.1 (hd (k - 1) (by omega))).1.1; omega)⟩)) rfl (g [[4]] ?_);refine WC.cond rfl (fun c102 => ?_) (fun c102 => ?_)
    · try simp only [zq] at c102
      refine g [[1],[10,1,5]] ?_;refine WP.ret1 rfl rfl rfl (RV.tmp rfl) (fun w hI => ⟨zb ?_, hI.keep⟩)
      first
        | exact (x9 (by assumption) (by assumption) (by assumption) hmk hsd (fun i hi => hd i (by omega))).symm
        | (symm
           refine yf fun hT => ?_
           first
             | (have h1 := hT.nm; have h2 := hT.ns; have h3 := hT.nl; simp_all [inB]; done)
             | (have h1 := hT.nm; have h2 := hT.ns; have h3 := hT.nl; simp_all [inB]; omega)
             | (have h1 := vS hT (k := k) (by omega); simp_all [y2]; done)
             | (have h1 := vS hT (k := k) (by omega); simp_all [y2]; omega)
             | (have h1 := hT.sand k (by omega); simp_all [y2]; done)
             | (have h1 := hT.sand k (by omega); simp_all [y2]; omega)
             | (have h1 := hT.look k (by omega); simp_all [lookB]; done))
    try simp only [zq] at c102
    refine g [[3],[2,1,5]] ?_;refine WL.yd (Yd.add rfl rfl (wr64 ⟨by first | omega | (have hh := zc.1 (show zA (gt T.marks k).high = true by assumption); omega) | (have hh := zc.1 (show zA (gt T.sand k) = true by assumption); omega) | (have hh := (zl.1 (hd (k - 1) (by omega))).1.1; omega), by first | omega | (have hh := zc.1 (show zA (gt T.marks k).high = true by assumption); omega) | (have hh := zc.1 (show zA (gt T.sand k) = true by assumption); omega) | (have hh := (zl.1 (hd (k - 1) (by omega))).1.1; omega)⟩)) rfl (g [[2]] ?_);exact WP.againF (k + 1) ⟨by omega, zZ hd (by simp_all [y2])⟩ (by omega) ⟨rfl, rfl, trivial⟩ zU1 zU2
  try simp only [zq] at c77
  refine g [[7],[5,1]] ?_;have hsd : ∀ i, i < T.sand.length → y2 (gt T.sand i) = true := fun i hi => hd i (by omega);clear hd hk c77 k;refine WC.loopF (fun k : Nat => [(1, pt b1), (6, nt k)]) (fun k => k ≤ T.looks.length ∧ ∀ i, i < k → lookB T (gt T.looks i) = true) (fun k => T.looks.length - k) 0 ⟨by omega, by intro i hi; omega⟩ ⟨rfl, rfl, trivial⟩ ?_;intro k ⟨hk, hd⟩;refine g [[2],[8,1,6]] ?_;refine WC.cond rfl (fun c107 => ?_) (fun c107 => ?_)
  · try simp only [zq] at c107
    have hkl : k < T.looks.length := by omega
    refine g [[5],[4,1,6]] ?_;refine WL.yd (Yd.indexS UnF.h SzF.h rfl rfl (by first | omega | (have hh := zc.1 (show zA (gt T.marks k).high = true by assumption); omega) | (have hh := zc.1 (show zA (gt T.sand k) = true by assumption); omega) | (have hh := (zl.1 (hd (k - 1) (by omega))).1.1; omega)) (by first | omega | (have hh := zc.1 (show zA (gt T.marks k).high = true by assumption); omega) | (have hh := zc.1 (show zA (gt T.sand k) = true by assumption); omega) | (have hh := (zl.1 (hd (k - 1) (by omega))).1.1; omega)) (hR.look.addr k (by omega))) rfl ?_;refine WL.yd (Yd.lV [_, _, _, _] rfl ((hR.look.at k (by omega)).rdn 0 4 rfl)) rfl ?_;refine WL.so (SO.alloc ZvF.h rfl) rfl (zw fun b7 hb7 => ?_);refine g [[4],[4,7,1,6]] ?_;refine WL.cl rfl (fun w hI => UB T a1 a2 a3 _ _ _ c1 c2 c3 D _ hR hI.imm _) (g [[2]] ?_);refine WL.part 120 rfl (fun g120 => ?_) (fun g120 => ?_)
    · try simp only [zq] at g120
      refine g [[16],[10,1,6]] ?_;refine WP.ret1 rfl rfl rfl (RV.tmp rfl) (fun w hI => ⟨zb ?_, hI.keep⟩);symm;refine yf fun hT => ?_
      (have h1 := hT.look k (by omega); simp_all [lookB]; done)
    try simp only [zq] at g120
    refine g [[3]] ?_;refine WL.sog rfl (SO.callP CaF.h rfl (fun w hI => WG T a1 a2 a3 _ _ _ c1 c2 c3 D _ hR hI.imm (by simp_all [inB]; omega) _)) rfl (zs (g [[3]] ?_));refine WL.part 127 rfl (fun g127 => ?_) (fun g127 => ?_)
    · try simp only [zq] at g127
      refine g [[9],[10,1,6]] ?_;refine WP.ret1 rfl rfl rfl (RV.tmp rfl) (fun w hI => ⟨zb ?_, hI.keep⟩);symm;refine yf fun hT => ?_
      (have h1 := hT.look k (by omega); simp_all [lookB]; done)
    try simp only [zq] at g127
    refine g [[2]] ?_;refine WL.sog rfl (SO.callP CaF.h rfl (fun w hI => kV ⟨_, _⟩ _)) rfl (zs (g [[4]] ?_));refine WC.cond rfl (fun c132 => ?_) (fun c132 => ?_)
    · try simp only [zq] at c132
      refine g [[1],[10,1,6]] ?_;refine WP.ret1 rfl rfl rfl (RV.tmp rfl) (fun w hI => ⟨zb ?_, hI.keep⟩);symm;refine yf fun hT => ?_
      (have h1 := hT.look k (by omega); simp_all [lookB]; done)
    try simp only [zq] at c132
    refine g [[3],[2,1,6]] ?_;refine WL.yd (Yd.add rfl rfl (wr64 ⟨by first | omega | (have hh := zc.1 (show zA (gt T.marks k).high = true by assumption); omega) | (have hh := zc.1 (show zA (gt T.sand k) = true by assumption); omega) | (have hh := (zl.1 (hd (k - 1) (by omega))).1.1; omega), by first | omega | (have hh := zc.1 (show zA (gt T.marks k).high = true by assumption); omega) | (have hh := zc.1 (show zA (gt T.sand k) = true by assumption); omega) | (have hh := (zl.1 (hd (k - 1) (by omega))).1.1; omega)⟩)) rfl (g [[2]] ?_);exact WP.againF (k + 1) ⟨by omega, zZ hd (by simp_all [lookB])⟩ (by omega) ⟨rfl, rfl, trivial⟩ zU1 zU2
  try simp only [zq] at c107
  refine g [[6]] ?_;refine WC.ofFr [] trivial (g [[5]] ?_);refine WP.ret1 rfl rfl rfl (RV.tmp rfl) (fun w hI => ⟨zb ?_, hI.keep⟩);exact (x9 (by assumption) (by assumption) (by assumption) hmk hsd (fun i hi => hd i (by omega))).symm
theorem kK (x : Wick) (m s : Sl) (D : Imm) (w : World) (hW : yG D x m s) (hH : Holds D w) : z8 Tryz.prog 34 [yL x m s] w (.bool (zS x)) := by
  unfold z8;refine en Tryz.func34 rfl Tryz.ntmps34 (Inv.start hH) (g [[1],[1,0]] ?_);refine WL.so (SO.box rfl rfl) rfl (zw fun b1 hb1 => ?_);refine g [[4],[3,2,1]] ?_;refine WL.cl rfl (fun w hI => YR x m s nilS nilS nilS _) (WL.cl rfl (fun w hI => JZ (zD x day0) none 0 0 D _ (W7 _ x) hI.imm) (g [[1]] ?_));refine WL.part 7 rfl (fun g7 => ?_) (fun g7 => ?_)
  · refine g [[2]] ?_;refine WL.sog rfl (SO.callP CaF.h rfl (fun w hI => YQ x m s nilS nilS nilS _)) rfl (zs ?_);refine WL.sog rfl (SO.callP CaF.h rfl (fun w hI => W6 (zE x day0) m.a s.a none m.n s.n 0 m.c s.c 0 D _ (wK hW (DayR.nil _)) hI.imm)) rfl (zs (g [[5]] ?_));refine WP.ret1 rfl rfl rfl (RV.tmp rfl) (fun w hI => ⟨zb (by rw [vr]; simp_all), hI.keep⟩)
  refine g [[9]] ?_;refine WP.ret1 rfl rfl rfl (RV.tmp rfl) (fun w hI => ⟨zb (by rw [vr]; simp_all), hI.keep⟩)
theorem Uz {w : World} {o : Option Ow} {n m : Nat} (h : owP w o n m) : n ≤ owCp o n := by
  cases o with
  | none => have h0 : n = 0 := h
            rw [h0]; exact Nat.zero_le _
  | some u => exact h.2.1
theorem wm (x : Wick) (d : Day) (m s t l b : Sl) (xb : Nat) (D : Imm) (w : World) (hd : DayR D d t l b) (hH : Holds D w) (hxn : D xb = none) (hx : w.heap[xb]? = some (womO x m s t l b)) : y6 Tryz.prog 22 [pt xb] w D (fun v D' => ∃ t2 l2 b2, v = .agg #[t2.v, l2.v, b2.v] ∧ DayR D' d t2 l2 b2 ∧ fitS t2 ∧ fitS l2 ∧ fitS b2) := by
  have htn : t.n = d.tks.length := hd.tks.len';have hln : l.n = d.looks.length := hd.looks.len';have hbn : b.n = d.book.length := hd.book.len';have hlen := hd.len;refine (zdr x d m s t l b xb D w w (Nat.le_refl _) hd hH hxn hx).mono fun e w' ⟨v, D', hpc', he, hX, hI, hD, o1, o2, o3, hv, h1, h2, h3, ⟨x1, x2, x3⟩, hh⟩ => ?_;subst hD; subst hh; subst hv;unfold dayH at hI;rw [← Uy, ← List.nil_append (owH o1 _ _ _)] at hI;obtain ⟨D2, hX2, hS2, hI2⟩ := Inv.freezeOw yn [] _ o1 _ d.tks h1 hI;rw [← Uy] at hI2;obtain ⟨D3, hX3, hS3, hI3⟩ := Inv.freezeOw yw [] _ o2 _ d.looks h2 hI2;rw [List.nil_append, ← List.nil_append (owH o3 _ _ _)] at hI3;obtain ⟨D4, hX4, hS4, hI4⟩ := Inv.freezeOw xm [] _ o3 _ d.book h3 hI3;refine ⟨_, D4, he, hI4.keep, hI4.imm, (hX2.trans hX3 (Nat.le_refl _)).trans hX4 (Nat.le_refl _), ⟨owAt o1, d.tks.length, owCp o1 d.tks.length⟩, ⟨owAt o2, d.looks.length, owCp o2 d.looks.length⟩, ⟨owAt o3, d.book.length, owCp o3 d.book.length⟩, ?_, ⟨(hS2.ext hX3).ext hX4, hS3.ext hX4, hS4, ⟨by dsimp only; omega, by dsimp only; omega, by dsimp only; omega⟩, Uz h1, Uz h2, Uz h3⟩, VL x1, VL x2, VL x3⟩;unfold dayO;rw [xg (wt h1), xg (wt h2), xg (wt h3)]; rfl
end Go.Proofs.YtejgofaeafphjaaGreatDoor
namespace Go.Ti
open Go.W
end Go.Ti
