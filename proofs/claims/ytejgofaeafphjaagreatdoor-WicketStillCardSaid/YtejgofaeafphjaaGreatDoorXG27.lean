import Derived.Test.YtejgofaeafphjaaGreatDoorXG26
import Derived.Test.YtejgofaeafphjaaGreatDoorXG5
import Derived.Test.YtejgofaeafphjaaGreatDoorXG7
set_option linter.all false
set_option maxRecDepth 100000
set_option maxHeartbeats 4000000
attribute [local irreducible] Go.W.WL Go.W.WLF Go.W.WC Go.W.WCF Go.W.WP Go.W.WA Go.W.WQ Go.W.WH Go.W.WHo Go.W.WCn Go.W.Yd Go.W.Qt Go.W.SO Go.Code.wp Go.Code.wpIn
namespace Go.Proofs.YtejgofaeafphjaaGreatDoor
open Go.W Go.Ti
def DoX (x : Wick) (f : FuncId) (cap : List Value) (K : Nat) (R : Day → List Int → Rep) (D0 : Imm) : Prop :=
  (∀ args w, (callFunc f args).run Tryz.prog w = .ok (.enter f args) w) ∧
  ∀ (d : Day) (m s t l b : Sl) (xb : Nat) (D : Imm) (w : World), (∀ b o, D0 b = some o → D b = some o) → zS x = true → zT x d → yG D x m s → DayR D d t l b → LibW D → ∀ (ls : List Int) (al : Option Addr) (nl cl : Nat), SlL D 1 (ls.map intC) al nl → ls.length = K → nl ≤ 1000 → Inv D [(xb, womO x m s t l b)] [xb] w w →
    yl Tryz.prog f ([pt xb, .slice al nl cl] ++ cap) w D [xb] (PutK x m s xb (R d ls)) (PutC x m s t l b xb (R d ls))
theorem vV {x : Wick} {d : Day} {m s t l b : Sl} {xb : Nat} {D : Imm} {w : World} {f : FuncId} {A : List Value} {r : Rep} (hd : DayR D d t l b) (hI : Inv D [(xb, womO x m s t l b)] [xb] w w) (hr : r.1 = d) (h : Calls Tryz.prog f A.toArray w fun e w' => AskK w r e w') :
    yl Tryz.prog f A w D [xb] (PutK x m s xb r) (PutC x m s t l b xb r) := by
  refine h.mono fun e w' ⟨hk, he⟩ => ⟨D, [(xb, womO x m s t l b)], DExt.refl _ _, hI.grow hk (hI.imm.keep hk) (DExt.refl _ _), ?_⟩;rcases he with ⟨h0, rfl⟩ | ⟨h0, rfl⟩
  · exact .inl ⟨_, rfl, h0, rfl, t, l, b, rfl, by rw [hr]; exact hd⟩
  exact .inr ⟨_, rfl, h0, rfl, rfl⟩
theorem ya (d : Day) (s : Bs) (r : List Int) (e : Int) : (askD d s r e).1 = d := by unfold askD errD; split <;> rfl
theorem wb {D : Imm} {xb : Nat} {o : Obj} {w : World} (hI : Inv D [(xb, o)] [xb] w w) : D xb = none ∧ w.heap[xb]? = some o := ⟨hI.apart _ _ (List.mem_singleton.2 rfl), hI.own _ _ (List.mem_singleton.2 rfl)⟩
theorem QV (x : Wick) (D0 : Imm) : DoX x 153 [] 1 (fun d ls => doD x d yF ls) D0 :=
  ⟨fun _ _ => Tryz.call153 _ _, fun d m s t l b xb D w _ hw hdo hW hd hL ls al nl cl hls hnl hll hI => vV hd hI (by dsimp only; rw [kk]; exact ya _ _ _ _) (zbq x d m s t l b xb D w hw hdo hW hd hL hI.imm (wb hI).1 (wb hI).2 ls al nl cl hls hnl hll)⟩
theorem VC (x : Wick) (D0 : Imm) : DoX x 154 [] 1 (fun d ls => doD x d y3 ls) D0 :=
  ⟨fun _ _ => Tryz.call154 _ _, fun d m s t l b xb D w _ hw hdo hW hd hL ls al nl cl hls hnl hll hI => vV hd hI (by dsimp only; rw [qi]; exact ya _ _ _ _) (Kc x d m s t l b xb D w hw hdo hW hd hL hI.imm (wb hI).1 (wb hI).2 ls al nl cl hls hnl hll)⟩
theorem QS (x : Wick) (D0 : Imm) : DoX x 155 [] 2 (fun d ls => doD x d yN ls) D0 :=
  ⟨fun _ _ => Tryz.call155 _ _, fun d m s t l b xb D w _ hw hdo hW hd hL ls al nl cl hls hnl hll hI => vV hd hI (by dsimp only; rw [kj]; exact ya _ _ _ _) (zal x d m s t l b xb D w hw hdo hW hd hL hI.imm (wb hI).1 (wb hI).2 ls al nl cl hls hnl hll)⟩
theorem Vz (x : Wick) (D0 : Imm) : DoX x 156 [] 2 (fun d ls => doD x d zz ls) D0 :=
  ⟨fun _ _ => Tryz.call156 _ _, fun d m s t l b xb D w _ hw hdo hW hd hL ls al nl cl hls hnl hll hI => vV hd hI (by dsimp only; rw [qf]; exact ya _ _ _ _) (QO x d m s t l b xb D w hw hdo hW hd hL hI.imm (wb hI).1 (wb hI).2 ls al nl cl hls hnl hll)⟩
theorem VA (x : Wick) (D0 : Imm) : DoX x 157 [] 3 (fun d ls => doD x d y9 ls) D0 :=
  ⟨fun _ _ => Tryz.call157 _ _, fun d m s t l b xb D w _ hw hdo hW hd hL ls al nl cl hls hnl hll hI => vV hd hI (by dsimp only; rw [qh]; exact ya _ _ _ _) (J2 x d m s t l b xb D w hw hdo hW hd hL hI.imm (wb hI).1 (wb hI).2 ls al nl cl hls hnl hll)⟩
theorem QQ (x : Wick) (D0 : Imm) : DoX x 158 [] 0 (fun d ls => doD x d yp ls) D0 :=
  ⟨fun _ _ => Tryz.call158 _ _, fun d m s t l b xb D w _ hw hdo hW hd hL ls al nl cl hls hnl hll hI => vV hd hI (by dsimp only; rw [ki]; exact (by split; rfl; exact ya _ _ _ _)) (za3 x d m s t l b xb D w hw hdo hW hd hL hI.imm (wb hI).1 (wb hI).2 ls al nl cl hls hnl hll)⟩
theorem zac (x : Wick) (D0 : Imm) : DoX x 159 [] 0 (fun d ls => doD x d sumS ls) D0 :=
  ⟨fun _ _ => Tryz.call159 _ _, fun d m s t l b xb D w _ hw hdo hW hd hL ls al nl cl hls hnl hll hI => vV hd hI (by dsimp only; rw [Xg]; exact ya _ _ _ _) (zda x d m s t l b xb D w hw hdo hW hd hL hI.imm (wb hI).1 (wb hI).2 ls al nl cl hls hnl hll)⟩
theorem QU (x : Wick) (D0 : Imm) : DoX x 151 [] 5 (fun d ls => doD x d zo ls) D0 :=
  ⟨fun _ _ => Tryz.call151 _ _, fun d m s t l b xb D w _ hw hdo hW hd hL ls al nl cl hls hnl hll hI => zba x d m s t l b xb D w hw hdo hW hd hL ls al nl cl hls hnl hll hI⟩
theorem QT (x : Wick) (D0 : Imm) : DoX x 152 [] 4 (fun d ls => doD x d yk ls) D0 :=
  ⟨fun _ _ => Tryz.call152 _ _, fun d m s t l b xb D w _ hw hdo hW hd hL ls al nl cl hls hnl hll hI => zaH x d m s t l b xb D w hw hdo hW hd hL ls al nl cl hls hnl hll hI⟩
theorem zab (x : Wick) (D0 : Imm) (bk : Nat) (hbk : D0 bk = some (.cells (List.toArray [.iface 218 (.agg #[it 1])]) 220 (0, 0))) : DoX x 225 [pt bk] 1 (fun d ls => doD x d payS ls) D0 :=
  ⟨fun _ _ => Tryz.call225 _ _, fun d m s t l b xb D w hDD hw hdo hW hd hL ls al nl cl hls hnl hll hI => by
    have := Zi x d m s t l b xb D w hw hdo hW hd hL ls al nl cl hls hnl hll hI 1 bk (hDD _ _ hbk);dsimp only;rw [VB];exact this⟩
theorem QR (x : Wick) (D0 : Imm) (bk : Nat) (hbk : D0 bk = some (.cells (List.toArray [.iface 218 (.agg #[it 2])]) 220 (0, 0))) : DoX x 225 [pt bk] 1 (fun d ls => doD x d xw ls) D0 :=
  ⟨fun _ _ => Tryz.call225 _ _, fun d m s t l b xb D w hDD hw hdo hW hd hL ls al nl cl hls hnl hll hI => by
    have := Zi x d m s t l b xb D w hw hdo hW hd hL ls al nl cl hls hnl hll hI 2 bk (hDD _ _ hbk);dsimp only;rw [Yr];exact this⟩
theorem QP (x : Wick) (D0 : Imm) (bk : Nat) (hbk : D0 bk = some (.cells (List.toArray [.iface 222 (.agg #[it 3])]) 220 (0, 0))) : DoX x 225 [pt bk] 2 (fun d ls => doD x d xE ls) D0 :=
  ⟨fun _ _ => Tryz.call225 _ _, fun d m s t l b xb D w hDD hw hdo hW hd hL ls al nl cl hls hnl hll hI => by
    have := Vr x d m s t l b xb D w hw hdo hW hd hL ls al nl cl hls hnl hll hI 3 bk (hDD _ _ hbk);dsimp only;rw [Yq];exact this⟩
theorem zdL : zj Tryz.prog 123 [.int .i64 0, .nilFunc] [(0, 1), (1, 1)] := ⟨⟨_, Tryz.zeroValue123, rfl⟩, _, Tryz.underlying123, fun w => by simp [Tryz.sizeOf3, Tryz.sizeOf121]⟩
abbrev zbC := SaF.mk zdL
attribute [instance] zbC
theorem zdV : zj Tryz.prog 218 [.int .i64 0] [(0, 1)] := ⟨⟨_, Tryz.zeroValue218, rfl⟩, _, Tryz.underlying218, fun w => by simp [Tryz.sizeOf3]⟩
abbrev zbM := SaF.mk zdV
attribute [instance] zbM
theorem zdW : zj Tryz.prog 222 [.int .i64 0] [(0, 1)] := ⟨⟨_, Tryz.zeroValue222, rfl⟩, _, Tryz.underlying222, fun w => by simp [Tryz.sizeOf218]⟩
abbrev zbN := SaF.mk zdW
attribute [instance] zbN
def wdV (n : Int) (f : Value) : Value := .agg #[it n, f]
def w9L : List (Bs × Value) := [(zo, wdV 5 (.func (.func 151) #[] #[])), (yk, wdV 4 (.func (.func 152) #[] #[])), (yF, wdV 1 (.func (.func 153) #[] #[])), (y3, wdV 1 (.func (.func 154) #[] #[])), (yN, wdV 2 (.func (.func 155) #[] #[])), (zz, wdV 2 (.func (.func 156) #[] #[])), (y9, wdV 3 (.func (.func 157) #[] #[])), (yp, wdV 0 (.func (.func 158) #[] #[])), (sumS, wdV 0 (.func (.func 159) #[] #[]))]
def entN (k : Nat) : Bs := match k with | 1 => payS | 2 => xw | 3 => xE | _ => []
def entI (k : Nat) : Value := if k = 3 then .iface 222 (.agg #[nt k]) else .iface 218 (.agg #[nt k])
def bkV (b : Nat) : Value := .func (.func 225) #[] #[pt b]
def entW (b : Nat → Nat) : Nat → List (Bs × Value)
  | 0 => []
  | k + 1 => entW b k ++ if k = 0 then [] else [(entN k, wdV (if k = 3 then 2 else 1) (bkV (b k)))]
theorem VE {b c : Nat → Nat} : ∀ {k : Nat}, (∀ j, j < k → b j = c j) → entW b k = entW c k
  | 0, _ => rfl
  | k + 1, h => by rw [entW, entW, VE (fun j hj => h j (by omega)), h k (by omega)]
theorem VF {b : Nat → Nat} {k : Nat} (h1 : 1 ≤ k) (h3 : k < 4) : entN k ∉ (w9L ++ entW b k).map (·.1) := by
  match k, h1, h3 with
  | 1, _, _ => show payS ∉ [zo, yk, yF, y3, yN, zz, y9, yp, sumS]; decide
  | 2, _, _ => show xw ∉ [zo, yk, yF, y3, yN, zz, y9, yp, sumS, payS]; decide
  | 3, _, _ => show xE ∉ [zo, yk, yF, y3, yN, zz, y9, yp, sumS, payS, xw]; decide
theorem Xh (k : Nat) : (entN k).length ≤ 2 ^ 40 := by
  unfold entN; split <;> decide
def EntH (b : Nat → Nat) (D : Imm) (k : Nat) : Prop := ∀ j, 1 ≤ j → j < k → D (b j) = some (.cells (List.toArray [entI j]) 220 (0, 0))
def updB (b : Nat → Nat) (k v : Nat) : Nat → Nat := fun j => if j = k then v else b j
theorem QZ {b : Nat → Nat} {k v : Nat} : entW (updB b k v) (k + 1) = entW b k ++ if k = 0 then [] else [(entN k, wdV (if k = 3 then 2 else 1) (bkV v))] := by
  rw [entW, VE (c := b) (fun j hj => by unfold updB; rw [if_neg (by omega)])];unfold updB; rw [if_pos rfl]
theorem EntH.upd {b : Nat → Nat} {D D' : Imm} {k v : Nat} {w : World} (h : EntH b D k) (hX : DExt w D D') (hv : D' v = some (.cells (List.toArray [entI k]) 220 (0, 0))) : EntH (updB b k v) D' (k + 1) := fun j h1 h2 => by
  unfold updB;by_cases e : j = k
  · subst e; rw [if_pos rfl]; exact hv
  rw [if_neg e]; exact hX.old _ _ (h j h1 (by omega))
theorem Kh {es : Array MapEntry} {b : Nat → Nat} {k v : Nat} {u : Value} (h1 : 1 ≤ k) (hn : wdV (if k = 3 then 2 else 1) (bkV v) = u) (h : AL es ((w9L ++ entW b k) ++ [(entN k, u)])) : AL es (w9L ++ entW (updB b k v) (k + 1)) := by
  rw [QZ, if_neg (by omega), hn, ← List.append_assoc]; exact h
theorem strK : Go.Maps.Keyed Tryz.prog 9 := Go.Maps.Keyed.of_law (WideMaps.string_law Tryz.underlying9)
theorem WJ (k : Int) (w : World) : z8 Tryz.prog 340 [.agg #[it k]] w (it 1) := by
  unfold z8;refine en Tryz.func340 rfl Tryz.ntmps340 zI (g [[1],[1,0]] ?_);refine WL.so (SO.box rfl rfl) rfl (zw fun b1 hb1 => ?_);refine g [[4],[5,2]] ?_;refine WP.ret1 rfl rfl rfl (RV.tmp rfl) (fun w hI => ⟨rfl, hI.keep⟩)
theorem WK (k : Int) (w : World) : z8 Tryz.prog 342 [.agg #[it k]] w (it 2) := by
  unfold z8;refine en Tryz.func342 rfl Tryz.ntmps342 zI (g [[1],[1,0]] ?_);refine WL.so (SO.box rfl rfl) rfl (zw fun b1 hb1 => ?_);refine g [[4],[5,2]] ?_;refine WP.ret1 rfl rfl rfl (RV.tmp rfl) (fun w hI => ⟨rfl, hI.keep⟩)
theorem Zj (t : TypeId) (u : Value) (D : Imm) (w : World) (hH : Holds D w) : y6 Tryz.prog 160 [.iface t u] w D (fun v D' => ∃ bk, v = bkV bk ∧ D' bk = some (.cells (List.toArray [.iface t u]) 220 (0, 0))) := by
  unfold y6;refine en Tryz.func160 rfl Tryz.ntmps160 (Inv.start hH) (g [[1],[1,0]] ?_);refine WL.so (SO.box rfl rfl) rfl (zw fun b1 hb1 => ?_);refine g [[4]] ?_;refine WC.freezeN 0 b1 (.cells (List.toArray [.iface t u]) 220 (0, 0)) rfl rfl hb1 (fun D1 hX1 h1 => ?_)
  
  refine g [[6,2,1]] ?_;refine WP.ret1 rfl rfl rfl (RV.tmp rfl) (fun w1 hI => ⟨_, D1, rfl, hI.keep, hI.imm, hX1, b1, rfl, h1⟩)
theorem Z9 (D : Imm) (hL : LibW D) (w : World) (hH : Holds D w) : y6 Tryz.prog 73 [] w D (fun v D' => ∃ bm es ck bq, v = .map (some bm) ∧ D' bm = some (.map es ck) ∧ AL es (w9L ++ entW bq 4) ∧ EntH bq D' 4) := by
  unfold y6;obtain ⟨mt, mfz, hmk⟩ := hL.ents;refine en Tryz.func73 rfl Tryz.ntmps73 (Inv.start hH) (g [[1]] ?_);refine WC.ofFr [] trivial (g [[5],[1,0]] ?_);refine WL.so SO.makeMap rfl ?_;rintro _ _ _ ⟨b5, hb5, rfl, rfl, rfl⟩;refine g [[1]] ?_;refine WL.so (SO.insA (j := 0) strK UnF.h UnF.h rfl (y := zo) (by decide) rfl rfl rfl AL.nil (G := []) (by decide)) rfl ?_;rintro _ _ _ ⟨rfl, es1, ck1, rfl, hM1⟩;have hM := hM1;clear hM1;refine g [[1]] ?_;refine WL.so (SO.insA (j := 0) strK UnF.h UnF.h rfl (y := yk) (by decide) rfl rfl rfl hM (G := [(zo, wdV 5 (.func (.func 151) #[] #[]))]) (by decide)) rfl ?_;rintro _ _ _ ⟨rfl, es1, ck1, rfl, hM1⟩;clear hM;have hM := hM1;clear hM1;refine g [[1]] ?_;refine WL.so (SO.insA (j := 0) strK UnF.h UnF.h rfl (y := yF) (by decide) rfl rfl rfl hM (G := [(zo, wdV 5 (.func (.func 151) #[] #[])), (yk, wdV 4 (.func (.func 152) #[] #[]))]) (by decide)) rfl ?_;rintro _ _ _ ⟨rfl, es1, ck1, rfl, hM1⟩;clear hM;have hM := hM1;clear hM1;refine g [[1]] ?_;refine WL.so (SO.insA (j := 0) strK UnF.h UnF.h rfl (y := y3) (by decide) rfl rfl rfl hM (G := [(zo, wdV 5 (.func (.func 151) #[] #[])), (yk, wdV 4 (.func (.func 152) #[] #[])), (yF, wdV 1 (.func (.func 153) #[] #[]))]) (by decide)) rfl ?_;rintro _ _ _ ⟨rfl, es1, ck1, rfl, hM1⟩;clear hM;have hM := hM1;clear hM1;refine g [[1]] ?_;refine WL.so (SO.insA (j := 0) strK UnF.h UnF.h rfl (y := yN) (by decide) rfl rfl rfl hM (G := [(zo, wdV 5 (.func (.func 151) #[] #[])), (yk, wdV 4 (.func (.func 152) #[] #[])), (yF, wdV 1 (.func (.func 153) #[] #[])), (y3, wdV 1 (.func (.func 154) #[] #[]))]) (by decide)) rfl ?_;rintro _ _ _ ⟨rfl, es1, ck1, rfl, hM1⟩;clear hM;have hM := hM1;clear hM1;refine g [[1]] ?_;refine WL.so (SO.insA (j := 0) strK UnF.h UnF.h rfl (y := zz) (by decide) rfl rfl rfl hM (G := [(zo, wdV 5 (.func (.func 151) #[] #[])), (yk, wdV 4 (.func (.func 152) #[] #[])), (yF, wdV 1 (.func (.func 153) #[] #[])), (y3, wdV 1 (.func (.func 154) #[] #[])), (yN, wdV 2 (.func (.func 155) #[] #[]))]) (by decide)) rfl ?_;rintro _ _ _ ⟨rfl, es1, ck1, rfl, hM1⟩;clear hM;have hM := hM1;clear hM1;refine g [[1]] ?_;refine WL.so (SO.insA (j := 0) strK UnF.h UnF.h rfl (y := y9) (by decide) rfl rfl rfl hM (G := [(zo, wdV 5 (.func (.func 151) #[] #[])), (yk, wdV 4 (.func (.func 152) #[] #[])), (yF, wdV 1 (.func (.func 153) #[] #[])), (y3, wdV 1 (.func (.func 154) #[] #[])), (yN, wdV 2 (.func (.func 155) #[] #[])), (zz, wdV 2 (.func (.func 156) #[] #[]))]) (by decide)) rfl ?_;rintro _ _ _ ⟨rfl, es1, ck1, rfl, hM1⟩;clear hM;have hM := hM1;clear hM1;refine g [[1]] ?_;refine WL.so (SO.insA (j := 0) strK UnF.h UnF.h rfl (y := yp) (by decide) rfl rfl rfl hM (G := [(zo, wdV 5 (.func (.func 151) #[] #[])), (yk, wdV 4 (.func (.func 152) #[] #[])), (yF, wdV 1 (.func (.func 153) #[] #[])), (y3, wdV 1 (.func (.func 154) #[] #[])), (yN, wdV 2 (.func (.func 155) #[] #[])), (zz, wdV 2 (.func (.func 156) #[] #[])), (y9, wdV 3 (.func (.func 157) #[] #[]))]) (by decide)) rfl ?_;rintro _ _ _ ⟨rfl, es1, ck1, rfl, hM1⟩;clear hM;have hM := hM1;clear hM1;refine g [[1]] ?_;refine WL.so (SO.insA (j := 0) strK UnF.h UnF.h rfl (y := sumS) (by decide) rfl rfl rfl hM (G := [(zo, wdV 5 (.func (.func 151) #[] #[])), (yk, wdV 4 (.func (.func 152) #[] #[])), (yF, wdV 1 (.func (.func 153) #[] #[])), (y3, wdV 1 (.func (.func 154) #[] #[])), (yN, wdV 2 (.func (.func 155) #[] #[])), (zz, wdV 2 (.func (.func 156) #[] #[])), (y9, wdV 3 (.func (.func 157) #[] #[])), (yp, wdV 0 (.func (.func 158) #[] #[]))]) (by decide)) rfl ?_;rintro _ _ _ ⟨rfl, es1, ck1, rfl, hM1⟩;clear hM;have hM := hM1;clear hM1;refine g [[6],[6,1,0]] ?_;refine WC.loop (fun y : Nat × Imm × Array MapEntry × Nat × (Nat → Nat) => [(1, .map (some b5)), (16, .agg (List.toArray [st [], st payS, st xw, st xE])), (17, nt y.1)]) (fun y => [(b5, .map y.2.2.1 y.2.2.2.1)]) (fun y => y.2.1) (fun y => y.1 ≤ 4 ∧ DExt w D y.2.1 ∧ EntH y.2.2.2.2 y.2.1 y.1 ∧ AL y.2.2.1 (w9L ++ entW y.2.2.2.2 y.1)) (fun y => 4 - y.1) ⟨0, D, es1, ck1, fun _ => 0⟩ ⟨by omega, DExt.refl _ _, fun j h1 h2 => by simp only at h2; omega, hM⟩ (fun a w h => y4 h ⟨rfl, rfl, rfl, trivial⟩) ?_;rintro ⟨k, D1, es, ck, bq⟩ ⟨hk, hX1, hE, hM⟩;dsimp only at hk hX1 hE hM;refine g [[1],[5,1,16,17]] ?_;refine WC.cond rfl (fun c18 => ?_) (fun c18 => ?_)
  · try simp only [zq] at c18
    have hk4 : k < 4 := by omega
    refine g [[5],[2,1,16,17]] ?_;refine WL.yd (Yd.indexV UnF.h AgF.h SzF.h rfl rfl (by omega) (v := st (entN k)) (by match k, hk4 with | 0, _ => rfl | 1, _ => rfl | 2, _ => rfl | 3, _ => rfl)) rfl (g [[6],[5,3,2,1,16,17]] ?_);refine WC.cond rfl (fun c22 => ?_) (fun c22 => ?_)
    · try simp only [zq] at c22
      refine g [[4],[4,1,16,17]] ?_;obtain rfl : k = 0 := by omega
      exact WP.again (⟨1, D1, es, ck, bq⟩ : Nat × Imm × Array MapEntry × Nat × (Nat → Nat)) ⟨by simp only; omega, hX1, fun j h1 h2 => by simp only at h2; omega, hM⟩ (by simp only; omega) (fun aa ww h => zL 0 h ⟨rfl, rfl, rfl, trivial⟩ (List.Perm.refl _))
    try simp only [zq] at c22
    refine g [[3],[9,3,2,1,16,17],[5,4,3,2,1,16,17]] ?_;refine WC.cond rfl (fun c27 => ?_) (fun c27 => ?_)
    · try simp only [zq] at c27
      refine g [[8,4,3,2,1,16,17],[4,4,3,1,16,17]] ?_;refine WL.so (SO.call (Enters.meth CaF.h (fun w => by kernel_rfl) rfl rfl) (fun w hI => WK k _)) rfl (zs (g [[1]] ?_));refine WL.so (SO.makes (Enters.func Tryz.call160 rfl) (fun w1 hI => Zj _ _ _ _ hI.imm)) rfl ?_;rintro _ D2 _ ⟨hX2, ⟨bk, rfl, hbk⟩, rfl⟩;refine g [[1]] ?_;refine WL.so (SO.updA (j := 0) strK UnF.h UnF.h rfl (Xh k) rfl rfl rfl hM (VF (by omega) hk4)) rfl ?_;rintro _ _ _ ⟨rfl, es1, ck1, rfl, hM1⟩;refine g [[3],[4,1,16,17]] ?_;obtain rfl : k = 3 := by omega
      exact WP.again (⟨4, D2, es1, ck1, updB bq 3 bk⟩ : Nat × Imm × Array MapEntry × Nat × (Nat → Nat)) ⟨by simp only; omega, hX1.trans hX2 (Nat.le_refl _), hE.upd hX2 hbk, Kh (by omega) rfl hM1⟩ (by simp only; omega) (fun aa ww h => zL 0 h ⟨rfl, rfl, rfl, trivial⟩ (List.Perm.refl _))
    try simp only [zq] at c27
    refine g [[2],[4,4,3,1,16,17]] ?_;refine WL.so (SO.call (Enters.meth CaF.h (fun w => by kernel_rfl) rfl rfl) (fun w hI => WJ k _)) rfl (zs (g [[1]] ?_));refine WL.so (SO.makes (Enters.func Tryz.call160 rfl) (fun w1 hI => Zj _ _ _ _ hI.imm)) rfl ?_;rintro _ D2 _ ⟨hX2, ⟨bk, rfl, hbk⟩, rfl⟩;refine g [[1]] ?_;refine WL.so (SO.updA (j := 0) strK UnF.h UnF.h rfl (Xh k) rfl rfl rfl hM (VF (by omega) hk4)) rfl ?_;rintro _ _ _ ⟨rfl, es1, ck1, rfl, hM1⟩;refine g [[3],[4,1,16,17]] ?_;exact WP.again (⟨k + 1, D2, es1, ck1, updB bq k bk⟩ : Nat × Imm × Array MapEntry × Nat × (Nat → Nat)) ⟨by simp only; omega, hX1.trans hX2 (Nat.le_refl _), hE.upd hX2 (by dsimp only; rw [hbk]; unfold entI; rw [if_neg (by omega)]; rfl), Kh (by omega) (by rw [if_neg (by omega)]; rfl) hM1⟩ (by simp only; omega) (fun aa ww h => zL 0 h ⟨rfl, rfl, rfl, trivial⟩ (List.Perm.refl _))
  try simp only [zq] at c18
  obtain rfl : k = 4 := by omega
  refine g [[6]] ?_;refine WC.freezeN 0 b5 (.map es ck) rfl rfl hb5 (fun D3 hX3 h5 => ?_);refine g [[6,1]] ?_;refine WP.ret1 rfl rfl rfl (RV.tmp rfl) (fun w1 hI => ⟨_, D3, rfl, hI.keep, hI.imm, hX1.trans hX3 (Nat.le_refl _), b5, es, ck, bq, rfl, h5, hM, fun j h1 h2 => hX3.old _ _ (hE j h1 h2)⟩)
theorem Yi {x : Wick} {bq : Nat → Nat} {D : Imm} (hE : EntH bq D 4) {y : Bs} {v : Value} (h : (w9L ++ entW bq 4).lookup y = some v) : ∃ (n : Nat) (f : FuncId) (cap : List Value), v = wdV n (.func (.func f) #[] cap.toArray) ∧ vv y = some n ∧ DoX x f cap n (fun d ls => doD x d y ls) D := by
  change List.lookup y [(zo, wdV 5 (.func (.func 151) #[] #[])), (yk, wdV 4 (.func (.func 152) #[] #[])), (yF, wdV 1 (.func (.func 153) #[] #[])), (y3, wdV 1 (.func (.func 154) #[] #[])), (yN, wdV 2 (.func (.func 155) #[] #[])), (zz, wdV 2 (.func (.func 156) #[] #[])), (y9, wdV 3 (.func (.func 157) #[] #[])), (yp, wdV 0 (.func (.func 158) #[] #[])), (sumS, wdV 0 (.func (.func 159) #[] #[])), (payS, wdV 1 (bkV (bq 1))), (xw, wdV 1 (bkV (bq 2))), (xE, wdV 2 (bkV (bq 3)))] = some v at h
  by_cases e0 : y = zo
  · subst e0;rw [List.lookup_cons, beq_self_eq_true] at h;dsimp only at h;cases h
    exact ⟨5, _, [], rfl, by decide, QU x D⟩
  rw [List.lookup_cons, show (y == zo) = false by simpa using e0] at h;dsimp only at h;by_cases e1 : y = yk
  · subst e1;rw [List.lookup_cons, beq_self_eq_true] at h;dsimp only at h;cases h
    exact ⟨4, _, [], rfl, by decide, QT x D⟩
  rw [List.lookup_cons, show (y == yk) = false by simpa using e1] at h;dsimp only at h;by_cases e2 : y = yF
  · subst e2;rw [List.lookup_cons, beq_self_eq_true] at h;dsimp only at h;cases h
    exact ⟨1, _, [], rfl, by decide, QV x D⟩
  rw [List.lookup_cons, show (y == yF) = false by simpa using e2] at h;dsimp only at h;by_cases e3 : y = y3
  · subst e3;rw [List.lookup_cons, beq_self_eq_true] at h;dsimp only at h;cases h
    exact ⟨1, _, [], rfl, by decide, VC x D⟩
  rw [List.lookup_cons, show (y == y3) = false by simpa using e3] at h;dsimp only at h;by_cases e4 : y = yN
  · subst e4;rw [List.lookup_cons, beq_self_eq_true] at h;dsimp only at h;cases h
    exact ⟨2, _, [], rfl, by decide, QS x D⟩
  rw [List.lookup_cons, show (y == yN) = false by simpa using e4] at h;dsimp only at h;by_cases e5 : y = zz
  · subst e5;rw [List.lookup_cons, beq_self_eq_true] at h;dsimp only at h;cases h
    exact ⟨2, _, [], rfl, by decide, Vz x D⟩
  rw [List.lookup_cons, show (y == zz) = false by simpa using e5] at h;dsimp only at h;by_cases e6 : y = y9
  · subst e6;rw [List.lookup_cons, beq_self_eq_true] at h;dsimp only at h;cases h
    exact ⟨3, _, [], rfl, by decide, VA x D⟩
  rw [List.lookup_cons, show (y == y9) = false by simpa using e6] at h;dsimp only at h;by_cases e7 : y = yp
  · subst e7;rw [List.lookup_cons, beq_self_eq_true] at h;dsimp only at h;cases h
    exact ⟨0, _, [], rfl, by decide, QQ x D⟩
  rw [List.lookup_cons, show (y == yp) = false by simpa using e7] at h;dsimp only at h;by_cases e8 : y = sumS
  · subst e8;rw [List.lookup_cons, beq_self_eq_true] at h;dsimp only at h;cases h
    exact ⟨0, _, [], rfl, by decide, zac x D⟩
  rw [List.lookup_cons, show (y == sumS) = false by simpa using e8] at h;dsimp only at h;by_cases e9 : y = payS
  · subst e9;rw [List.lookup_cons, beq_self_eq_true] at h;dsimp only at h;cases h
    exact ⟨1, _, [pt (bq 1)], rfl, by decide, zab x D (bq 1) (hE 1 (by omega) (by omega))⟩
  rw [List.lookup_cons, show (y == payS) = false by simpa using e9] at h;dsimp only at h;by_cases e10 : y = xw
  · subst e10;rw [List.lookup_cons, beq_self_eq_true] at h;dsimp only at h;cases h
    exact ⟨1, _, [pt (bq 2)], rfl, by decide, QR x D (bq 2) (hE 2 (by omega) (by omega))⟩
  rw [List.lookup_cons, show (y == xw) = false by simpa using e10] at h;dsimp only at h;by_cases e11 : y = xE
  · subst e11;rw [List.lookup_cons, beq_self_eq_true] at h;dsimp only at h;cases h
    exact ⟨2, _, [pt (bq 3)], rfl, by decide, QP x D (bq 3) (hE 3 (by omega) (by omega))⟩
  rw [List.lookup_cons, show (y == xE) = false by simpa using e11] at h;dsimp only at h;cases h
theorem Qm {bq : Nat → Nat} {y : Bs} (h : (w9L ++ entW bq 4).lookup y = none) : vv y = none := by
  have hne : ∀ s v, (s, v) ∈ [(zo, wdV 5 (.func (.func 151) #[] #[])), (yk, wdV 4 (.func (.func 152) #[] #[])), (yF, wdV 1 (.func (.func 153) #[] #[])), (y3, wdV 1 (.func (.func 154) #[] #[])), (yN, wdV 2 (.func (.func 155) #[] #[])), (zz, wdV 2 (.func (.func 156) #[] #[])), (y9, wdV 3 (.func (.func 157) #[] #[])), (yp, wdV 0 (.func (.func 158) #[] #[])), (sumS, wdV 0 (.func (.func 159) #[] #[])), (payS, wdV 1 (bkV (bq 1))), (xw, wdV 1 (bkV (bq 2))), (xE, wdV 2 (bkV (bq 3)))] → y ≠ s := by
    rintro s v hm rfl
    change List.lookup y [(zo, wdV 5 (.func (.func 151) #[] #[])), (yk, wdV 4 (.func (.func 152) #[] #[])), (yF, wdV 1 (.func (.func 153) #[] #[])), (y3, wdV 1 (.func (.func 154) #[] #[])), (yN, wdV 2 (.func (.func 155) #[] #[])), (zz, wdV 2 (.func (.func 156) #[] #[])), (y9, wdV 3 (.func (.func 157) #[] #[])), (yp, wdV 0 (.func (.func 158) #[] #[])), (sumS, wdV 0 (.func (.func 159) #[] #[])), (payS, wdV 1 (bkV (bq 1))), (xw, wdV 1 (bkV (bq 2))), (xE, wdV 2 (bkV (bq 3)))] = none at h
    rw [List.lookup_eq_none_iff] at h;exact absurd (h _ hm) (by simp)
  unfold vv;rw [if_neg (hne zo _ (by repeat (first | exact List.mem_cons_self | apply List.mem_cons_of_mem)))]; rw [if_neg (hne yk _ (by repeat (first | exact List.mem_cons_self | apply List.mem_cons_of_mem)))]; rw [if_neg (hne yF _ (by repeat (first | exact List.mem_cons_self | apply List.mem_cons_of_mem)))]; rw [if_neg (hne y3 _ (by repeat (first | exact List.mem_cons_self | apply List.mem_cons_of_mem)))]; rw [if_neg (hne yN _ (by repeat (first | exact List.mem_cons_self | apply List.mem_cons_of_mem)))]; rw [if_neg (hne zz _ (by repeat (first | exact List.mem_cons_self | apply List.mem_cons_of_mem)))]; rw [if_neg (hne y9 _ (by repeat (first | exact List.mem_cons_self | apply List.mem_cons_of_mem)))]; rw [if_neg (hne yp _ (by repeat (first | exact List.mem_cons_self | apply List.mem_cons_of_mem)))]; rw [if_neg (hne sumS _ (by repeat (first | exact List.mem_cons_self | apply List.mem_cons_of_mem)))]; rw [if_neg (hne payS _ (by repeat (first | exact List.mem_cons_self | apply List.mem_cons_of_mem)))]; rw [if_neg (hne xw _ (by repeat (first | exact List.mem_cons_self | apply List.mem_cons_of_mem)))]; rw [if_neg (hne xE _ (by repeat (first | exact List.mem_cons_self | apply List.mem_cons_of_mem)))]
def tkO (a : Option Addr) (n c : Nat) : Obj := .cells (List.toArray [.slice a n c]) 129 (0, 0)
def strC (p : Bs) : List Value := [st p]
def NumK (s : Bs) (tb : Nat) (a : Option Addr) (n c : Nat) (v : Value) (D' : Imm) (hp' : Hp) : Prop := (∃ z, Go.Ti.numP s = some z ∧ v = it z) ∧ hp' = [(tb, tkO (u6 a c 1 1) (n - 1) (c - 1))]
def NumC (s : Bs) (ch : List PanicEntry) (_ : Imm) (_ : Hp) : Prop := Go.Ti.numP s = none ∧ ch = jA 8
theorem zcI {s : Bs} (h : ∀ v, Lib.atoiAll s ≠ .ok v) : Go.Ti.numP s = none := by
  unfold Go.Ti.numP;split
  · rename_i v e; exact absurd e (h v)
  rfl
theorem XI {s : Bs} {v : Int} (h : Lib.atoiAll s = .ok v) : Go.Ti.numP s = if 0 ≤ v ∧ s.length ≤ 6 ∧ Lib.itoa v = s then some v else none := by unfold Go.Ti.numP; rw [h]
theorem QA {s : Bs} {v : Int} (h : Lib.atoiAll s = .ok v) : i64B v := by
  unfold Lib.atoiAll at h;unfold i64B;split at h
  · cases h
  dsimp only at h;split at h
  · cases h
  · cases h
  split at h
  · cases h
  split at h
  · cases h
  cases h
  split <;> omega
theorem XW (s : Bs) (c : UInt8) (hs : s.length ≤ 2 ^ 20) (D : Imm) (hL : LibW D) (w : World) (hH : Holds D w) : y6 Tryz.prog 72 [st s, st [c]] w D (fun v D' => ∃ a n cp, v = .slice a n cp ∧ n ≤ cp ∧ SlL D' 1 ((Lib.split s [c]).map fun p => [st p]) a n) := by
  obtain ⟨m, hm⟩ := hL.max hH;refine (Any.strings_Split zay zk ⟨s.toArray⟩ ⟨List.toArray [c]⟩ m w (by rw [wk]; omega) hm (by rw [wk]; simp)).mono fun e' w' ⟨h1, h2⟩ => ?_;subst h2;have hI := (Inv.start hH).new (.cells ((Lib.splitB ⟨List.toArray [c]⟩ 0 (Lib.countB ⟨s.toArray⟩ ⟨List.toArray [c]⟩) ⟨s.toArray⟩).map Value.string).toArray 9)
  have hlen : (Lib.split s [c]).length = Lib.countB ⟨s.toArray⟩ ⟨List.toArray [c]⟩ + 1 := by
    have := Lib.splitB_all ⟨List.toArray [c]⟩ (by rw [wk]; simp) 0 _ ⟨s.toArray⟩ rfl;have h3 := congrArg List.length (Lib.splitB_data ⟨List.toArray [c]⟩ 0 (Lib.countB ⟨s.toArray⟩ ⟨List.toArray [c]⟩) ⟨s.toArray⟩);rw [List.length_map, this] at h3;exact h3.symm
  have hd : (Lib.splitB ⟨List.toArray [c]⟩ 0 (Lib.countB ⟨s.toArray⟩ ⟨List.toArray [c]⟩) ⟨s.toArray⟩).map Value.string = ((Lib.split s [c]).flatMap fun p => [st p]) ++ [] := by
    have h3 := Lib.splitB_data ⟨List.toArray [c]⟩ 0 (Lib.countB ⟨s.toArray⟩ ⟨List.toArray [c]⟩) ⟨s.toArray⟩;have h4 : Lib.split s [c] = (Lib.splitB ⟨List.toArray [c]⟩ 0 (Lib.countB ⟨s.toArray⟩ ⟨List.toArray [c]⟩) ⟨s.toArray⟩).map (·.data.toList) := h3.symm;rw [h4, List.append_nil]
    induction (Lib.splitB ⟨List.toArray [c]⟩ 0 (Lib.countB ⟨s.toArray⟩ ⟨List.toArray [c]⟩) ⟨s.toArray⟩) with
    | nil => rfl
    | cons x l ih => rw [List.map_cons, List.map_cons, List.flatMap_cons, ← ih]; rfl
  refine ⟨_, _, h1, hI.keep, hI.freeze.imm, ?_, ?_⟩
  · exact (DExt.refl w D).add (hI.apart _ _ (List.mem_cons_self)) (Nat.le_refl _)
  exact ⟨_, _, _, rfl, Nat.le_refl _, by rw [← hlen]; exact SlL.ofBlock (rest := []) (fun _ => rfl) (by rw [← hd]; exact Imm.add_self _ _ _)⟩
theorem Uk (tb : Nat) (ss : List Bs) (a : Option Addr) (n c : Nat) (D : Imm) (w : World) (hL : LibW D) (hS : SlL D 1 (ss.map strC) a n) (h1 : 1 ≤ n) (hc : n ≤ c) (hl : (gt ss 0).length ≤ 2 ^ 20) (hI0 : Inv D [(tb, tkO a n c)] [tb] w w) (v : Int) (hv : Lib.atoiAll (gt ss 0) = .ok v) : yl Tryz.prog 161 [pt tb] w D [tb] (NumK (gt ss 0) tb a n c) (NumC (gt ss 0)) := by
  unfold yl;refine en Tryz.func161 rfl Tryz.ntmps161 hI0 (g [[1],[5,0],[5,2,0]] ?_);refine WL.yd (Yd.ix rfl rfl (hS.addr 0 (by omega))) rfl (WL.yd (Yd.l1 rfl ((hS.at 0 (by omega)).rd 0 rfl)) rfl (g [[4],[6,3,2,0]] ?_));refine WL.yd (Yd.sliceFrom (k := 1) Tryz.underlying37 Tryz.sizeOf9 rfl rfl (by omega)) rfl (g [[6],[2,3,2]] ?_);refine WL.cl rfl (fun w hI => za0 _ (by omega) v hv _) (g [[8],[2,5,4,3,2]] ?_);refine WL.yd (Yd.eqlNilNil UnF.h rfl) rfl (g [[5]] ?_);refine WL.part 31 rfl (fun g31 => ?_) (fun g31 => ?_)
  · try simp only [zq] at g31
    refine g [[1]] ?_;refine WL.ydg rfl (Yd.lenStr rfl Tryz.underlying9 rfl) rfl (g [[3]] ?_);refine WL.part 36 rfl (fun g36 => ?_) (fun g36 => ?_)
    · try simp only [zq] at g36
      refine g [[1]] ?_;refine WL.sog rfl (SO.callP CaF.h rfl (fun w hI => Xw v (QA hv) D hL _ hI.imm)) rfl (zs (g [[1]] ?_));refine WL.ydg rfl (Yd.eqS' rfl rfl) rfl (g [[1]] ?_);refine WL.part 41 rfl (fun g41 => ?_) (fun g41 => ?_)
      · try simp only [zq] at g41
        refine WL.cl rfl (fun w hI => zB _ _) (g [[3],[6,4,2]] ?_);refine WP.ret1 rfl rfl rfl (RV.tmp rfl) (fun w1 hI => ⟨D, [_], DExt.refl _ _, hI, .inl ⟨_, rfl, ⟨v, by rw [XI hv, if_pos ⟨by omega, by omega, by assumption⟩], rfl⟩, rfl⟩⟩)
      try simp only [zq] at g41
      refine WL.nf rfl (fun w hI => zy _ _) (g [[1]] ?_);exact WP.panicBody rfl (fun w1 hI => ⟨D, [_], DExt.refl _ _, hI, .inr ⟨_, rfl, by rw [XI hv, if_neg]; rintro ⟨k1, k2, k3⟩; first | exact g41 k3 | omega, rfl⟩⟩)
    try simp only [zq] at g36
    refine g [[5]] ?_;refine WL.nf rfl (fun w hI => zy _ _) (g [[1]] ?_);exact WP.panicBody rfl (fun w1 hI => ⟨D, [_], DExt.refl _ _, hI, .inr ⟨_, rfl, by rw [XI hv, if_neg]; rintro ⟨k1, k2, k3⟩; first | exact g41 k3 | omega, rfl⟩⟩)
  try simp only [zq] at g31
  refine g [[10]] ?_;refine WL.nf rfl (fun w hI => zy _ _) (g [[1]] ?_);exact WP.panicBody rfl (fun w1 hI => ⟨D, [_], DExt.refl _ _, hI, .inr ⟨_, rfl, by rw [XI hv, if_neg]; rintro ⟨k1, k2, k3⟩; first | exact g41 k3 | omega, rfl⟩⟩)
theorem Uj (tb : Nat) (ss : List Bs) (a : Option Addr) (n c : Nat) (D : Imm) (w : World) (hL : LibW D) (hS : SlL D 1 (ss.map strC) a n) (h1 : 1 ≤ n) (hc : n ≤ c) (hl : (gt ss 0).length ≤ 2 ^ 20) (hI0 : Inv D [(tb, tkO a n c)] [tb] w w) (hv : ∀ v, Lib.atoiAll (gt ss 0) ≠ .ok v) : yl Tryz.prog 161 [pt tb] w D [tb] (NumK (gt ss 0) tb a n c) (NumC (gt ss 0)) := by
  unfold yl;refine en Tryz.func161 rfl Tryz.ntmps161 hI0 (g [[1],[5,0],[5,2,0]] ?_);refine WL.yd (Yd.ix rfl rfl (hS.addr 0 (by omega))) rfl (WL.yd (Yd.l1 rfl ((hS.at 0 (by omega)).rd 0 rfl)) rfl (g [[4],[6,3,2,0]] ?_));refine WL.yd (Yd.sliceFrom (k := 1) Tryz.underlying37 Tryz.sizeOf9 rfl rfl (by omega)) rfl (g [[6],[2,3,2]] ?_);refine WL.so (SO.news (Enters.func CaF.h rfl) (fun w hI => KZ _ (by omega) hv D hL w hI.imm)) rfl ?_;rintro _ D1 _ ⟨_, hX1, ⟨rfl, z, tt, p, rfl⟩, rfl⟩;refine g [[8],[2,5,4,3,2]] ?_;refine WL.yd (Yd.eqlNil UnF.h rfl) rfl (g [[15]] ?_);refine WL.nf rfl (fun w hI => zy _ _) (g [[1]] ?_);exact WP.panicBody rfl (fun w1 hI => ⟨D1, [_], hX1, hI, .inr ⟨_, rfl, zcI hv, rfl⟩⟩)
theorem YB {α : Type} [Inhabited α] (l : List α) (k : Nat) : gt (l.drop k) 0 = gt l k := by simp [gt, List.getD]
theorem Js (tb : Nat) (ss : List Bs) (a : Option Addr) (n c : Nat) (D : Imm) (w : World) (hL : LibW D) (hS : SlL D 1 (ss.map strC) a n) (h1 : 1 ≤ n) (hc : n ≤ c) (hl : (gt ss 0).length ≤ 2 ^ 20) (hI0 : Inv D [(tb, tkO a n c)] [tb] w w) : yl Tryz.prog 161 [pt tb] w D [tb] (NumK (gt ss 0) tb a n c) (NumC (gt ss 0)) := by
  by_cases h : ∃ v, Lib.atoiAll (gt ss 0) = .ok v
  · obtain ⟨v, hv⟩ := h;exact Uk tb ss a n c D w hL hS h1 hc hl hI0 v hv
  exact Uj tb ss a n c D w hL hS h1 hc hl hI0 (fun v e => h ⟨v, e⟩)
theorem Ul {s : Bs} : ∀ {ss : List Bs}, s ∈ ss → Go.Ti.numP s = none → numsL ss = none
  | x :: ss, h, hn => by
    rcases List.mem_cons.1 h with rfl | h
    · rw [numsL, hn]; rfl
    rw [numsL, Ul h hn];cases Go.Ti.numP x <;> rfl
theorem ZQ {s : Bs} {v : Int} (hv : Go.Ti.numP s = some v) : ∀ {ss : List Bs} {l : List Int}, numsL ss = some l → numsL (ss ++ [s]) = some (l ++ [v])
  | [], l, h => by cases h; rw [List.nil_append, numsL, hv]; rfl
  | x :: ss, l, h => by
    rw [numsL] at h;rw [List.cons_append, numsL];cases hx : Go.Ti.numP x with
    | none => rw [hx] at h; cases h
    | some u =>
      rw [hx] at h;cases hr : numsL ss with
      | none => rw [hr] at h; cases h
      | some r => rw [hr] at h; cases h; rw [ZQ hv hr]; rfl
def AllK (ss : List Bs) (v : Value) (D' : Imm) (_ : Hp) : Prop := ∃ (l : List Int) (al : Option Addr) (nl cl : Nat), numsL ss = some l ∧ v = .slice al nl cl ∧ SlL D' 1 (l.map intC) al nl ∧ nl = ss.length
def AllC (ss : List Bs) (ch : List PanicEntry) (_ : Imm) (_ : Hp) : Prop := numsL ss = none ∧ ch = jA 8
theorem KW (tb : Nat) (ss : List Bs) (a : Option Addr) (c : Nat) (D : Imm) (w : World) (hL : LibW D) (hS : SlL D 1 (ss.map strC) a ss.length) (hc : ss.length ≤ c) (hll : ss.length ≤ 1000) (hlen : ∀ s ∈ ss, s.length ≤ 2 ^ 20) (hI0 : Inv D [(tb, tkO a ss.length c)] [tb] w w) : yl Tryz.prog 74 [pt tb] w D [tb] (AllK ss) (AllC ss) := by
  unfold yl;refine en Tryz.func74 rfl Tryz.ntmps74 hI0 (g [[1],[4,0]] ?_);refine WC.scope (g [[1],[7,2,0]] ?_);refine WC.label (g [[3]] ?_);refine WC.loop (fun y : Nat × Imm × Option Ow × Option Addr × Nat × List Int => [(0, pt tb), (2, owV y.2.2.1 y.1), (3, .func (.func 161) #[pt tb] #[])]) (fun y => (tb, tkO y.2.2.2.1 (ss.length - y.1) y.2.2.2.2.1) :: owH y.2.2.1 3 (y.2.2.2.2.2.flatMap intC) []) (fun y => y.2.1) (fun y => y.1 ≤ ss.length ∧ DExt w D y.2.1 ∧ owP w y.2.2.1 y.1 1 ∧ SlL y.2.1 1 ((ss.drop y.1).map strC) y.2.2.2.1 (ss.length - y.1) ∧ ss.length - y.1 ≤ y.2.2.2.2.1 ∧ y.2.2.2.2.2.length = y.1 ∧ numsL (ss.take y.1) = some y.2.2.2.2.2) (fun y => ss.length - y.1) ⟨0, D, none, a, c, []⟩ ⟨by omega, DExt.refl _ _, rfl, hS, hc, rfl, rfl⟩ (fun a w h => y4 h ⟨rfl, rfl, rfl, trivial⟩) ?_;rintro ⟨k, D1, o, a1, c1, lk⟩ ⟨hk, hX1, ho, hS1, hc1, hlk, hnk⟩;dsimp only at hk hX1 ho hS1 hc1 hlk hnk;refine g [[3],[9,0,2,3]] ?_;refine WC.cond rfl (fun c11 => ?_) (fun c11 => ?_)
  · try simp only [zq] at c11
    obtain rfl : k = ss.length := by omega
    refine g [[7],[2,2]] ?_;refine WL.know 17 (.slice (owAt o) ss.length (owCp o ss.length)) rfl (xg (wt ho)) ?_;refine WL.freezeOw (f := intC) (m := 1) zJ [_] [] o 3 lk rfl (by rw [hlk]; exact ho) rfl (fun D3 hX3 hS3 => ?_);refine g [[4]] ?_;refine WP.scRet ?_;refine WP.ret1 rfl rfl rfl (RV.tmp rfl) (fun w1 hI => ⟨D3, _, hX1.trans hX3 (Nat.le_refl _), hI, .inl ⟨_, rfl, lk, _, _, _, by rw [← hnk, List.take_length], rfl, (by rw [← hlk]; exact hS3), rfl⟩⟩)
  try simp only [zq] at c11
  have hkl : k < ss.length := by omega
  refine g [[2],[3,0,2,3]] ?_;refine WL.so  (SO.altersV (own := owH o 3 (lk.flatMap intC) []) (hpc := [(tb, tkO a1 (ss.length - k) c1)]) (S1 := [tb]) (fun e he => (List.perm_append_singleton _ _).mem_iff.1 he) (fun hn => ((List.perm_append_singleton _ _).map Prod.fst).nodup_iff.2 hn) (fun _ h => h) (fun _ h => h) (Enters.val CaF.h rfl rfl) (fun w1 _ hI => Js tb (ss.drop k) a1 _ c1 D1 w1 (hL.ext hX1) hS1 (by omega) hc1 (by rw [YB]; exact hlen _ (gt_mem' hkl)) hI) ?_) rfl ?_
  · rintro ch D5 hp5 ⟨hnn, rfl⟩ hX5;rw [YB] at hnn;refine g [[4]] ?_;refine WP.scPanic ?_;exact WP.panicBody rfl (fun w1 hI => ⟨D5, _, hX1.trans hX5 (Nat.le_refl _), hI, .inr ⟨_, rfl, Ul (gt_mem' hkl) hnn, rfl⟩⟩)
  rintro _ D2 _ ⟨hp2, hX2, ⟨⟨z, hz, rfl⟩, rfl⟩, rfl⟩;rw [YB] at hz;refine WL.hpPerm ((tb, tkO (u6 a1 c1 1 1) (ss.length - k - 1) (c1 - 1)) :: owH o 3 (lk.flatMap intC) []) (List.perm_append_singleton _ _) (WL.so (SO.buildSlice1 UnF.h SzF.h ZvF.h rfl rfl rfl (vs := [_]) rfl rfl rfl) rfl ?_);rintro _ _ _ ⟨b15, hb15, rfl, rfl, rfl⟩;refine WL.so (SO.appendOwW (W := w) (Nat.le_refl _) (o := o) (len := k) (n := 1) (xs := (lk.flatMap intC)) (size := 1) [_] [_] [] rfl rfl Tryz.underlying94 Tryz.sizeOf3 Tryz.typeInfo3 Tryz.zeroValue3 rfl rfl rfl rfl ⟨rfl, .inr ⟨_, _, _, rfl, RdN.own (k := 0) (n := 1) rfl rfl⟩⟩ (za rfl) ho (by rw [zr zJ, hlk, Nat.mul_one]) (by omega) (by show (2 * (k + 1) + 1000) * 8 ≤ 2 ^ 48; omega) (by omega)) rfl ?_;rintro _ _ _ ⟨u1, hu1, rfl, rfl, rfl⟩;refine g [[3]] ?_;exact WP.again (⟨k + 1, D2, some u1, u6 a1 c1 1 1, c1 - 1, lk ++ [z]⟩ : Nat × Imm × Option Ow × Option Addr × Nat × List Int) ⟨by simp only; omega, hX1.trans hX2 (Nat.le_refl _), hu1, by dsimp only; rw [← List.drop_drop, show ss.length - (k + 1) = ss.length - k - 1 by omega]; rw [List.map_drop]; exact (hS1.ext hX2).drop (by omega) hc1, by dsimp only; omega, by dsimp only; rw [List.length_append, hlk]; rfl, by dsimp only; rw [zP hkl]; exact ZQ hz hnk⟩ (by simp only; omega) (fun aa ww h => yM 0 h ⟨rfl, rfl, rfl, trivial⟩ (by dsimp only; rw [List.flatMap_append]; exact List.Perm.refl _) (fun _ _ h => h))
end Go.Proofs.YtejgofaeafphjaaGreatDoor
