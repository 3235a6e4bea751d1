import Derived.Test.YtejgofaeafphjaaGreatDoorXG25
import Derived.Test.YtejgofaeafphjaaGreatDoorXG5
import Derived.Test.YtejgofaeafphjaaGreatDoorXG7
set_option linter.unusedSimpArgs false
set_option linter.unusedVariables false
set_option linter.all false
set_option maxRecDepth 100000
set_option maxHeartbeats 4000000
attribute [local irreducible] Go.W.WL Go.W.WLF Go.W.WC Go.W.WCF Go.W.WP Go.W.WA Go.W.WQ Go.W.WH Go.W.WHo Go.W.WCn Go.W.Yd Go.W.Qt Go.W.SO Go.Code.wp Go.Code.wpIn
namespace Go.Proofs.YtejgofaeafphjaaGreatDoor
open Go.W Go.Ti
theorem SA41 : StructAt Tryz.prog 41 [.int .i64 0, .int .i64 0, .int .i64 0, .int .i64 0, .int .i64 0] [(0, 2), (2, 1), (3, 2)] := ⟨⟨_, Tryz.zeroValue41, rfl⟩, _, Tryz.underlying41, fun w => by simp [Tryz.sizeOf3, Tryz.sizeOf39]⟩
@[reducible, instance] def ISA41 := SaF.mk SA41
theorem SA44 : StructAt Tryz.prog 44 [.int .i64 0, .int .i64 0, .int .i64 0, .int .i64 0] [(0, 1), (1, 1), (2, 2)] := ⟨⟨_, Tryz.zeroValue44, rfl⟩, _, Tryz.underlying44, fun w => by simp [Tryz.sizeOf3, Tryz.sizeOf39]⟩
@[reducible, instance] def ISA44 := SaF.mk SA44
def PutK (x : Wick) (m s : Sl) (xb : Nat) (r : Rep) (v : Value) (D' : Imm) (hp' : Hp) : Prop := r.2.2 = 0 ∧ v = st r.2.1 ∧ ∃ t' l' b', hp' = [(xb, womO x m s t' l' b')] ∧ DayR D' r.1 t' l' b'
def PutC (x : Wick) (m s t l b : Sl) (xb : Nat) (r : Rep) (ch : List PanicEntry) (_ : Imm) (hp' : Hp) : Prop := r.2.2 ≠ 0 ∧ ch = stopW r.2.2 ∧ hp' = [(xb, womO x m s t l b)]
theorem turn_m1 {T : Tks} : (TurnOut T (-1)).2 = if tksB T = true then 2 else 1 := by
  have h0 : isT T (-1) = false := by unfold isT; simp
  unfold TurnOut tksE
  rw [h0]
  cases tksB T <;> simp
theorem sell_cases (x : Wick) (d : Day) (X : Tick) : sellD x d X = if 5 ≤ d.tks.length then errD d 9 else if tksB ⟨x.huts, d.tks ++ [X]⟩ = false then errD d 2 else ({ d with tks := d.tks ++ [X] }, repL ticketS [(d.tks.length : Int)], 0) := rfl
theorem look_cases (x : Wick) (d : Day) (X : Look) : lookD x d X = if 6 ≤ d.looks.length then errD d 9 else if tideB ⟨x.marks, x.sand, d.looks ++ [X]⟩ = false then errD d 2 else ({ d with looks := d.looks ++ [X] }, repL lookS [(d.looks.length : Int)], 0) := rfl
theorem womO_t {x : Wick} {m s t l b : Sl} {xb : Nat} {a : Option Addr} {c : Nat} {X : Tick} {L : List Tick} : ([(xb, .cells (splice (womC x m s t l b) (0 + 6 + 0) [.slice a (L ++ [X]).length c]).toArray 99 (0, 0))] : Hp) = [(xb, womO x m s ⟨a, L.length + 1, c⟩ l b)] := by
  rw [List.length_append]; rfl
theorem womO_l {x : Wick} {m s t l b : Sl} {xb : Nat} {a : Option Addr} {c : Nat} {X : Look} {L : List Look} : ([(xb, .cells (splice (womC x m s t l b) (0 + 6 + 1) [.slice a (L ++ [X]).length c]).toArray 99 (0, 0))] : Hp) = [(xb, womO x m s t ⟨a, L.length + 1, c⟩ b)] := by
  rw [List.length_append]; rfl
theorem womO_b {x : Wick} {m s t l b : Sl} {xb : Nat} {a : Option Addr} {c : Nat} {X : Ent} {L : List Ent} : ([(xb, .cells (splice (womC x m s t l b) (0 + 6 + 2) [.slice a (L ++ [X]).length c]).toArray 99 (0, 0))] : Hp) = [(xb, womO x m s t l ⟨a, L.length + 1, c⟩)] := by
  rw [List.length_append]; rfl
theorem sell_R {D : Imm} {d : Day} {t l b : Sl} {X : Tick} {a : Option Addr} {c : Nat} (h : DayR D d t l b) (hS : SlL D 5 ((d.tks ++ [X]).map tickC) a (d.tks ++ [X]).length) (hc : (d.tks ++ [X]).length ≤ c) (h5 : d.tks.length ≤ 5) : DayR D { d with tks := d.tks ++ [X] } ⟨a, d.tks.length + 1, c⟩ l b := by
  rw [List.length_append] at hS hc
  exact ⟨hS, h.looks, h.book, ⟨by show d.tks.length + 1 ≤ 1000; omega, h.len.2⟩, ⟨hc, h.cap.2⟩⟩
theorem look_R {D : Imm} {d : Day} {t l b : Sl} {X : Look} {a : Option Addr} {c : Nat} (h : DayR D d t l b) (hS : SlL D 4 ((d.looks ++ [X]).map lookC) a (d.looks ++ [X]).length) (hc : (d.looks ++ [X]).length ≤ c) (h5 : d.looks.length ≤ 6) : DayR D { d with looks := d.looks ++ [X] } t ⟨a, d.looks.length + 1, c⟩ b := by
  rw [List.length_append] at hS hc
  exact ⟨h.tks, hS, h.book, ⟨h.len.1, by show d.looks.length + 1 ≤ 1000; omega, h.len.2.2⟩, ⟨h.cap.1, hc, h.cap.2.2⟩⟩
theorem sellX_g (x : Wick) (d : Day) (m s t l b : Sl) (xb : Nat) (D : Imm) (w : World) (hw : wickB x = true) (hdo : DayOk x d) (hW : WickR D x m s) (hd : DayR D d t l b) (hL : LibW D) (ls : List Int) (al : Option Addr) (nl cl : Nat) (hls : SlL D 1 (ls.map intC) al nl) (hnl : ls.length = 5) (hll : nl ≤ 1000) (hI0 : Inv D [(xb, womO x m s t l b)] [xb] w w) : AltersV Tryz.prog 151 [pt xb, .slice al nl cl] w D [xb] (PutK x m s xb (doD x d ticketS ls)) (PutC x m s t l b xb (doD x d ticketS ls)) := by
  unfold AltersV
  obtain rfl := hls.len'
  have htl := hd.tks.len'
  have htl2 := hd.len.1
  have htn : t.n = d.tks.length := htl
  rw [do_ticket]
  refine en Tryz.func151 rfl Tryz.ntmps151 hI0 (g [[1],[5,0,1],[11,4,0,1],[3,5,4,0,1]] ?_)
  refine WL.part 16 rfl (fun g16 => ?_) (fun g16 => ?_)
  · try simp only [zq] at g16
    refine WL.cl rfl (fun w hI => mustW_ok _ _) (g [[3],[2,5,4,0,1]] ?_)
    refine WL.cl rfl (fun w hI => wTks_g x m s t l b xb _ (hI.own _ _ (List.mem_of_getElem? (i := 0) rfl))) ?_
    refine WL.so (SO.alloc ZvF.h rfl) rfl (zw fun b6 hb6 => ?_)
    refine g [[4],[0,6,5,4,0,1]] ?_
    refine WC.drawO [] (pz [1,5,7,9,11,13,15,17,19,21,23,25,27,29,31,33,35,37,39,2,40,43,44]) zk zk zX (fun _ hI => hI.nil) (g [[2]] ?_)
    refine WA.yd rfl (Yd.ix rfl rfl (hls.addr 0 (by omega))) rfl (WA.yd rfl (Yd.l1 rfl ((hls.at 0 (by omega)).rd 0 rfl)) rfl (g [[1]] ?_))
    refine WA.yd rfl (Yd.ix rfl rfl (hls.addr 0 (by omega))) rfl (WA.yd rfl (Yd.l1 rfl ((hls.at 1 (by omega)).rd 0 rfl)) rfl (g [[2]] ?_))
    refine WA.yd rfl (Yd.ix rfl rfl (hls.addr 0 (by omega))) rfl (WA.yd rfl (Yd.l1 rfl ((hls.at 2 (by omega)).rd 0 rfl)) rfl (g [[1]] ?_))
    refine WA.yd rfl (Yd.ix rfl rfl (hls.addr 0 (by omega))) rfl (WA.yd rfl (Yd.l1 rfl ((hls.at 3 (by omega)).rd 0 rfl)) rfl (g [[1]] ?_))
    refine WA.yd rfl (Yd.ix rfl rfl (hls.addr 0 (by omega))) rfl (WA.yd rfl (Yd.l1 rfl ((hls.at 4 (by omega)).rd 0 rfl)) rfl (g [[2]] ?_))
    refine WA.so rfl (SO.ofYd (Yd.l1 rfl (Rd.own (k := 0) rfl rfl))) rfl ?_
    rintro _ _ _ ⟨rfl, rfl, rfl⟩
    refine ⟨fun _ hI => hI.nil, ?_⟩
    refine WA.know 39 (.agg (List.toArray (tickC (⟨⟨(gt ls 0), (gt ls 1)⟩, gt ls 2, ⟨gt ls 3, gt ls 4⟩⟩ : Tick)))) rfl rfl (WA.so rfl (SO.makes (Enters.func Tryz.call222 rfl) (fun w1 hI => grownTick_g d.tks (⟨⟨(gt ls 0), (gt ls 1)⟩, gt ls 2, ⟨gt ls 3, gt ls 4⟩⟩ : Tick) t.a _ t.c D hd.tks hd.len.1 w1 hI.imm)) rfl ?_)
    rintro _ D2 _ ⟨hX2, ⟨a2, c2, rfl, hS2, hc2⟩, rfl⟩
    replace hL := hL.ext hX2
    have hd2 := hd.ext hX2
    refine ⟨fun _ hI => hI.nil.shrink hX2.old, ?_⟩
    refine g [[1]] ?_
    refine WA.so rfl (SO.store 0 rfl SzF.h rfl rfl rfl rfl (zqb rfl) (oneB_spec rfl)) rfl ?_
    rintro _ _ _ ⟨rfl, rfl, rfl⟩
    refine ⟨fun _ hI => hI.nil.shrink hX2.old, ?_⟩
    refine g [[3],[2,6,5,4,0]] ?_
    refine WL.cl rfl (fun w hI => Turn_g ⟨x.huts, d.tks ++ [(⟨⟨(gt ls 0), (gt ls 1)⟩, gt ls 2, ⟨gt ls 3, gt ls 4⟩⟩ : Tick)]⟩ a2 _ c2 D2 _ ⟨hS2, by rw [List.length_append]; show d.tks.length + 1 ≤ 1000; omega⟩ hI.imm (-1)) (g [[8],[3,8,6,5,4,0]] ?_)
    refine WL.part 48 rfl (fun g48 => ?_) (fun g48 => ?_)
    · try simp only [zq] at g48
      refine WL.cl rfl (fun w hI => mustW_ok _ _) (g [[3],[11,6,5,4,0],[4,5,4]] ?_)
      refine WL.so (SO.buildSlice1 UnF.h SzF.h ZvF.h rfl rfl rfl (vs := [_, _]) rfl rfl rfl) rfl ?_
      rintro _ _ _ ⟨b59, hb59, rfl, rfl, rfl⟩
      refine WL.freezeN 0 b59 (.cells (List.toArray ([Pt.s ticketS, Pt.n (t.n : Int)].flatMap ptI ++ [])) 20 (0, 0)) rfl rfl hb59 (fun D9 hX9 h59 => ?_)
      refine WL.cl rfl (fun w hI => told_g [Pt.s ticketS, Pt.n (t.n : Int)] (some ⟨b59, 0, none⟩) 2 2 D9 (hL.ext hX9) (SlL.ofBlock ptI_len h59) (by decide) (by intro p hp; simp only [List.mem_cons, List.not_mem_nil, or_false] at hp; rcases hp with rfl | rfl; exact (show List.length _ ≤ 100 by decide); exact (by unfold ptB; unfold i64B; omega)) _ hI.imm) (g [[4]] ?_)
      refine WP.ret1 rfl rfl rfl (RV.tmp rfl) (fun w1 hI => ⟨D9, [_], hX2.trans hX9 (Nat.le_refl _), hI.tail, .inl ⟨_, rfl, by rw [sell_cases, if_neg (by omega), if_neg (by rw [turn_m1] at g48; revert g48; cases tksB ⟨x.huts, d.tks ++ [(⟨⟨(gt ls 0), (gt ls 1)⟩, gt ls 2, ⟨gt ls 3, gt ls 4⟩⟩ : Tick)]⟩ <;> simp)]; exact ⟨rfl, by rw [← htn, ← told_rep _ [_]]; rfl, ⟨a2, d.tks.length + 1, c2⟩, l, b, womO_t, sell_R (hd2.ext hX9) (hS2.ext hX9) hc2 (by omega)⟩⟩⟩)
    try simp only [zq] at g48
    refine WL.nf rfl (fun w hI => mustW_no _ _) (g [[1]] ?_)
    first
      | exact WP.panicBody rfl (fun w1 hI => ⟨D, [_], DExt.refl _ _, hI, .inr ⟨_, rfl, by rw [sell_cases, if_pos (by omega)]; exact ⟨by simp [errD], rfl, rfl⟩⟩⟩)
      | exact WP.panicBody rfl (fun w1 hI => ⟨D2, [_], hX2, hI.tail, .inr ⟨_, rfl, by rw [sell_cases, if_neg (by omega), if_pos (by rw [turn_m1] at g48; revert g48; cases tksB ⟨x.huts, d.tks ++ [(⟨⟨(gt ls 0), (gt ls 1)⟩, gt ls 2, ⟨gt ls 3, gt ls 4⟩⟩ : Tick)]⟩ <;> simp)]; exact ⟨by simp [errD], rfl, rfl⟩⟩⟩)
  try simp only [zq] at g16
  refine WL.nf rfl (fun w hI => mustW_no _ _) (g [[1]] ?_)
  first
    | exact WP.panicBody rfl (fun w1 hI => ⟨D, [_], DExt.refl _ _, hI, .inr ⟨_, rfl, by rw [sell_cases, if_pos (by omega)]; exact ⟨by simp [errD], rfl, rfl⟩⟩⟩)
    | exact WP.panicBody rfl (fun w1 hI => ⟨D2, [_], hX2, hI.tail, .inr ⟨_, rfl, by rw [sell_cases, if_neg (by omega), if_pos (by rw [turn_m1] at g48; revert g48; cases tksB ⟨x.huts, d.tks ++ [(⟨⟨(gt ls 0), (gt ls 1)⟩, gt ls 2, ⟨gt ls 3, gt ls 4⟩⟩ : Tick)]⟩ <;> simp)]; exact ⟨by simp [errD], rfl, rfl⟩⟩⟩)
theorem lookX_g (x : Wick) (d : Day) (m s t l b : Sl) (xb : Nat) (D : Imm) (w : World) (hw : wickB x = true) (hdo : DayOk x d) (hW : WickR D x m s) (hd : DayR D d t l b) (hL : LibW D) (ls : List Int) (al : Option Addr) (nl cl : Nat) (hls : SlL D 1 (ls.map intC) al nl) (hnl : ls.length = 4) (hll : nl ≤ 1000) (hI0 : Inv D [(xb, womO x m s t l b)] [xb] w w) : AltersV Tryz.prog 152 [pt xb, .slice al nl cl] w D [xb] (PutK x m s xb (doD x d lookS ls)) (PutC x m s t l b xb (doD x d lookS ls)) := by
  unfold AltersV
  obtain rfl := hls.len'
  have htl := hd.looks.len'
  have htl2 := hd.len.2.1
  have htn : l.n = d.looks.length := htl
  rw [do_look]
  refine en Tryz.func152 rfl Tryz.ntmps152 hI0 (g [[1],[5,0,1],[11,4,0,1],[3,5,4,0,1]] ?_)
  refine WL.part 14 rfl (fun g14 => ?_) (fun g14 => ?_)
  · try simp only [zq] at g14
    refine WL.cl rfl (fun w hI => mustW_ok _ _) (g [[3],[2,5,4,0,1]] ?_)
    refine WL.cl rfl (fun w hI => wTide_g x m s t l b xb _ (hI.own _ _ (List.mem_of_getElem? (i := 0) rfl))) ?_
    refine WL.so (SO.alloc ZvF.h rfl) rfl (zw fun b6 hb6 => ?_)
    refine g [[4],[0,6,5,4,0,1]] ?_
    refine WC.drawO [] (pz [1,5,7,9,11,13,15,17,19,21,23,25,27,29,31,2,32,35,36]) zk zk zX (fun _ hI => hI.nil) (g [[2]] ?_)
    refine WA.yd rfl (Yd.ix rfl rfl (hls.addr 0 (by omega))) rfl (WA.yd rfl (Yd.l1 rfl ((hls.at 0 (by omega)).rd 0 rfl)) rfl (g [[1]] ?_))
    refine WA.yd rfl (Yd.ix rfl rfl (hls.addr 0 (by omega))) rfl (WA.yd rfl (Yd.l1 rfl ((hls.at 1 (by omega)).rd 0 rfl)) rfl (g [[1]] ?_))
    refine WA.yd rfl (Yd.ix rfl rfl (hls.addr 0 (by omega))) rfl (WA.yd rfl (Yd.l1 rfl ((hls.at 2 (by omega)).rd 0 rfl)) rfl (g [[1]] ?_))
    refine WA.yd rfl (Yd.ix rfl rfl (hls.addr 0 (by omega))) rfl (WA.yd rfl (Yd.l1 rfl ((hls.at 3 (by omega)).rd 0 rfl)) rfl (g [[2]] ?_))
    refine WA.so rfl (SO.ofYd (Yd.l1 rfl (Rd.own (k := 0) rfl rfl))) rfl ?_
    rintro _ _ _ ⟨rfl, rfl, rfl⟩
    refine ⟨fun _ hI => hI.nil, ?_⟩
    refine WA.know 33 (.agg (List.toArray (lookC (⟨(gt ls 0), (gt ls 1), ⟨gt ls 2, gt ls 3⟩⟩ : Look)))) rfl rfl (WA.so rfl (SO.makes (Enters.func Tryz.call224 rfl) (fun w1 hI => grownLook_g d.looks (⟨(gt ls 0), (gt ls 1), ⟨gt ls 2, gt ls 3⟩⟩ : Look) l.a _ l.c D hd.looks hd.len.2.1 w1 hI.imm)) rfl ?_)
    rintro _ D2 _ ⟨hX2, ⟨a2, c2, rfl, hS2, hc2⟩, rfl⟩
    replace hL := hL.ext hX2
    have hd2 := hd.ext hX2
    replace hW := hW.ext hX2
    refine ⟨fun _ hI => hI.nil.shrink hX2.old, ?_⟩
    refine g [[1]] ?_
    refine WA.so rfl (SO.store 0 rfl SzF.h rfl rfl rfl rfl (zqb rfl) (oneB_spec rfl)) rfl ?_
    rintro _ _ _ ⟨rfl, rfl, rfl⟩
    refine ⟨fun _ hI => hI.nil.shrink hX2.old, ?_⟩
    refine g [[3],[3,6,5,4,0]] ?_
    refine WL.cl rfl (fun w hI => wIsTide_g _ ⟨x.marks, x.sand, d.looks ++ [(⟨(gt ls 0), (gt ls 1), ⟨gt ls 2, gt ls 3⟩⟩ : Look)]⟩ m.a s.a a2 _ _ _ m.c s.c c2 D2 _ ⟨hW.mark, hW.sand, hS2, hW.len.1, hW.len.2, by rw [List.length_append]; show d.looks.length + 1 ≤ 1000; omega⟩ hI.imm hL) ?_
    refine WL.part 38 rfl (fun g38 => ?_) (fun g38 => ?_)
    · try simp only [zq] at g38
      refine WL.cl rfl (fun w hI => mustW_ok _ _) (g [[3],[11,6,5,4,0],[4,5,4]] ?_)
      refine WL.so (SO.buildSlice1 UnF.h SzF.h ZvF.h rfl rfl rfl (vs := [_, _]) rfl rfl rfl) rfl ?_
      rintro _ _ _ ⟨b49, hb49, rfl, rfl, rfl⟩
      refine WL.freezeN 0 b49 (.cells (List.toArray ([Pt.s lookS, Pt.n (l.n : Int)].flatMap ptI ++ [])) 20 (0, 0)) rfl rfl hb49 (fun D9 hX9 h49 => ?_)
      refine WL.cl rfl (fun w hI => told_g [Pt.s lookS, Pt.n (l.n : Int)] (some ⟨b49, 0, none⟩) 2 2 D9 (hL.ext hX9) (SlL.ofBlock ptI_len h49) (by decide) (by intro p hp; simp only [List.mem_cons, List.not_mem_nil, or_false] at hp; rcases hp with rfl | rfl; exact (show List.length _ ≤ 100 by decide); exact (by unfold ptB; unfold i64B; omega)) _ hI.imm) (g [[4]] ?_)
      refine WP.ret1 rfl rfl rfl (RV.tmp rfl) (fun w1 hI => ⟨D9, [_], hX2.trans hX9 (Nat.le_refl _), hI.tail, .inl ⟨_, rfl, by rw [look_cases, if_neg (by omega), if_neg (by rw [g38]; simp)]; exact ⟨rfl, by rw [← htn, ← told_rep _ [_]]; rfl, t, ⟨a2, d.looks.length + 1, c2⟩, b, womO_l, look_R (hd2.ext hX9) (hS2.ext hX9) hc2 (by omega)⟩⟩⟩)
    try simp only [zq] at g38
    refine WL.nf rfl (fun w hI => mustW_no _ _) (g [[1]] ?_)
    first
      | exact WP.panicBody rfl (fun w1 hI => ⟨D, [_], DExt.refl _ _, hI, .inr ⟨_, rfl, by rw [look_cases, if_pos (by omega)]; exact ⟨by simp [errD], rfl, rfl⟩⟩⟩)
      | exact WP.panicBody rfl (fun w1 hI => ⟨D2, [_], hX2, hI.tail, .inr ⟨_, rfl, by rw [look_cases, if_neg (by omega), if_pos g38]; exact ⟨by simp [errD], rfl, rfl⟩⟩⟩)
  try simp only [zq] at g14
  refine WL.nf rfl (fun w hI => mustW_no _ _) (g [[1]] ?_)
  first
    | exact WP.panicBody rfl (fun w1 hI => ⟨D, [_], DExt.refl _ _, hI, .inr ⟨_, rfl, by rw [look_cases, if_pos (by omega)]; exact ⟨by simp [errD], rfl, rfl⟩⟩⟩)
    | exact WP.panicBody rfl (fun w1 hI => ⟨D2, [_], hX2, hI.tail, .inr ⟨_, rfl, by rw [look_cases, if_neg (by omega), if_pos g38]; exact ⟨by simp [errD], rfl, rfl⟩⟩⟩)
end Go.Proofs.YtejgofaeafphjaaGreatDoor
namespace Go.Proofs.YtejgofaeafphjaaGreatDoor
open Go.W Go.Ti
def ofT (d : Day) (n : Int) : List Ent := d.book.filter fun e => decide (e.ticket = n)
def ofN (d : Day) (n : Int) (k : Nat) : Nat := ((d.book.take k).filter fun e => decide (e.ticket = n)).length
def entV (e : Ent) : Value := .agg (entC e).toArray
theorem filter_snoc {α : Type} [Inhabited α] (p : α → Bool) {l : List α} {k : Nat} (hk : k < l.length) : (l.take (k + 1)).filter p = (l.take k).filter p ++ if p (gt l k) then [gt l k] else [] := by
  rw [take_gt hk, List.filter_append]
  congr 1
  generalize gt l k = y
  cases h : p y <;> simp [h]
theorem ofN_y {d : Day} {n : Int} {k : Nat} (hk : k < d.book.length) (h : (gt d.book k).ticket = n) : ofN d n (k + 1) = ofN d n k + 1 ∧ ofN d n k < (ofT d n).length ∧ gt (ofT d n) (ofN d n k) = gt d.book k := by
  have h1 := filter_snoc (fun e => decide (e.ticket = n)) hk
  rw [if_pos (decide_eq_true h)] at h1
  have h2 : ofT d n = (d.book.take (k + 1)).filter (fun e => decide (e.ticket = n)) ++ (d.book.drop (k + 1)).filter (fun e => decide (e.ticket = n)) := by
    unfold ofT; rw [← List.filter_append, List.take_append_drop]
  refine ⟨by unfold ofN; rw [h1]; simp, ?_, ?_⟩
  · rw [h2, h1]; simp only [ofN, List.length_append, List.length_cons, List.length_nil]; omega
  rw [h2, h1]; unfold ofN; simp [gt, List.getD]
theorem ofN_n {d : Day} {n : Int} {k : Nat} (hk : k < d.book.length) (h : ¬ (gt d.book k).ticket = n) : ofN d n (k + 1) = ofN d n k := by
  have h1 := filter_snoc (fun e => decide (e.ticket = n)) hk
  rw [if_neg (by simpa using h)] at h1
  unfold ofN; rw [h1]; simp
theorem ofN_all (d : Day) (n : Int) : ofN d n d.book.length = (ofT d n).length := by unfold ofN ofT; rw [List.take_length]
theorem of_iter (x : Wick) (d : Day) (m s t l b : Sl) (xb : Nat) (n : Int) (bx bn : Nat) (D : Imm) (hxD : D xb = some (womO x m s t l b)) (hd : DayR D d t l b) (h1 : D bx = some (.cells (List.toArray [pt xb]) 50 (0, 0))) (h2 : D bn = some (.cells (List.toArray [it n]) 3 (0, 0))) (w : World) : IterP Tryz.prog 273 [pt bx, pt bn] (ofT d n).length (fun k => entV (gt (ofT d n) k)) D [] w := by
  intro ly St C hm hround h0 hS0 hI
  have hb := hd.book
  have hbn : b.n = d.book.length := hb.len'
  have hbl := hd.len.2.2
  unfold AltersP
  refine en Tryz.func273 rfl Tryz.ntmps273 hI (g [[1],[11,0,1,2]] ?_)
  refine WC.loop (fun y : Nat × Imm × Hp => [(0, .func (.yield ly) #[] #[]), (2, pt bn), (10, .slice b.a b.n b.c), (11, nt b.n), (12, nt y.1)]) (fun y => y.2.2) (fun y => y.2.1) (fun y => y.1 ≤ d.book.length ∧ DExt w D y.2.1 ∧ St (ofN d n y.1) y.2.1 y.2.2) (fun y => d.book.length - y.1) ⟨0, D, h0⟩ ⟨by omega, DExt.refl _ _, hS0⟩ (fun a w h => at_fr h ⟨rfl, rfl, rfl, rfl, rfl, trivial⟩) ?_
  rintro ⟨k, D1, h1⟩ ⟨hk, hX1, hS1⟩
  dsimp only at hk hX1 hS1
  refine g [[1],[5,0,2,10,11,12]] ?_
  refine WC.cond rfl (fun c13 => ?_) (fun c13 => ?_)
  · try simp only [zq] at c13
    have hkl : k < d.book.length := by omega
    refine g [[5],[1,0,2,10,11,12]] ?_
    refine WL.yd (Yd.ix rfl rfl ((hb.ext hX1).addr k (by omega))) rfl (WL.yd (Yd.lV [_, _, _] rfl (((hb.ext hX1).at k (by omega)).rdn 0 3 rfl)) rfl ?_)
    refine WL.so (SO.alloc ZvF.h rfl) rfl (zw fun b5 hb5 => ?_)
    refine g [[4],[0,5,0,2,10,11,12]] ?_
    refine WC.ofF (g [[3]] ?_)
    refine WLF.yd (zn rfl) (Yd.l1 rfl (Rd.imm (hX1.old _ _ h2) rfl)) rfl (g [[2]] ?_)
    refine WLF.part 20 rfl (fun g20 => ?_) (fun g20 => ?_)
    · try simp only [zq] at g20
      refine g [[2]] ?_
      first | (obtain ⟨ho1, ho2, ho3⟩ := ofN_y hkl g20; refine WLF.know 22 (entV (gt d.book k)) rfl rfl ?_) | skip
      refine WLF.yieldPg [(b5, _)] h1 (fun _ h => h) (fun h => h) rfl rfl rfl rfl (fun w' hsz' hI' => by have h9 := hround (ofN d n k) D1 h1 w' ho2 hsz' hX1 hS1 hI'; dsimp only at h9; rw [ho3] at h9; exact h9) ?_ ?_
      · intro D2 h2 hS2 hX2
        refine g [[8],[4,0,2,10,11,12]] ?_
        first
          | exact WP.again (⟨k + 1, D2, h2⟩ : Nat × Imm × Hp) ⟨by simp only; omega, hX1.trans hX2 (Nat.le_refl _), by simp only; rw [ho1]; exact hS2⟩ (by simp only; omega) (fun aa ww h => at_drop 1 h ⟨rfl, rfl, rfl, rfl, rfl, trivial⟩ (List.Perm.refl _))
          | exact WP.again (⟨k + 1, D1, h1⟩ : Nat × Imm × Hp) ⟨by simp only; omega, hX1, by simp only; rw [ofN_n hkl g20]; exact hS1⟩ (by simp only; omega) (fun aa ww h => at_drop 1 h ⟨rfl, rfl, rfl, rfl, rfl, trivial⟩ (List.Perm.refl _))
      intro ch D2 h2 hC hX2
      refine g [[5]] ?_
      exact WP.panicBody rfl (fun w1 hI => ⟨D2, h2, hX1.trans hX2 (Nat.le_refl _), hI.tail, .inr ⟨_, rfl, hC⟩⟩)
    try simp only [zq] at g20
    refine g [[2]] ?_
    first | (obtain ⟨ho1, ho2, ho3⟩ := ofN_y hkl g20; refine WLF.know 22 (entV (gt d.book k)) rfl rfl ?_) | skip
    refine g [[9],[4,0,2,10,11,12]] ?_
    first
      | exact WP.again (⟨k + 1, D2, h2⟩ : Nat × Imm × Hp) ⟨by simp only; omega, hX1.trans hX2 (Nat.le_refl _), by simp only; rw [ho1]; exact hS2⟩ (by simp only; omega) (fun aa ww h => at_drop 1 h ⟨rfl, rfl, rfl, rfl, rfl, trivial⟩ (List.Perm.refl _))
      | exact WP.again (⟨k + 1, D1, h1⟩ : Nat × Imm × Hp) ⟨by simp only; omega, hX1, by simp only; rw [ofN_n hkl g20]; exact hS1⟩ (by simp only; omega) (fun aa ww h => at_drop 1 h ⟨rfl, rfl, rfl, rfl, rfl, trivial⟩ (List.Perm.refl _))
  try simp only [zq] at c13
  obtain rfl : k = d.book.length := by omega
  refine g [[4]] ?_
  refine WP.ret0 rfl rfl rfl  (fun w1 hI => ⟨D1, h1, hX1, hI, .inl ⟨_, rfl, by rw [← ofN_all]; exact hS1⟩⟩)
end Go.Proofs.YtejgofaeafphjaaGreatDoor
namespace Go.Proofs.YtejgofaeafphjaaGreatDoor
open Go.W Go.Ti
theorem SA46 : StructAt Tryz.prog 46 [.int .i64 0, .int .i64 0, .int .i64 0] [(0, 1), (1, 1), (2, 1)] := ⟨⟨_, Tryz.zeroValue46, rfl⟩, _, Tryz.underlying46, fun w => by simp [Tryz.sizeOf3]⟩
@[reducible, instance] def ISA46 := SaF.mk SA46
theorem booked_of (d : Day) (n k : Int) : bookedB d.book n k = (ofT d n).any fun e => decide (e.kind = k) := by
  unfold bookedB ofT
  rw [List.any_filter]
  congr 1
  funext e
  by_cases h1 : e.ticket = n <;> by_cases h2 : e.kind = k <;> simp [h1, h2]
theorem booked_y {d : Day} {n k : Int} {j : Nat} (hj : j < (ofT d n).length) (h : (gt (ofT d n) j).kind = k) : bookedB d.book n k = true := by
  rw [booked_of]; exact List.any_eq_true.2 ⟨_, gt_mem' hj, decide_eq_true h⟩
theorem booked_n {d : Day} {n k : Int} (h : ∀ j, j < (ofT d n).length → ¬ (gt (ofT d n) j).kind = k) : bookedB d.book n k = false := by
  rw [booked_of, List.any_eq_false]
  intro e he
  obtain ⟨i, hi, rfl⟩ := List.getElem_of_mem he
  have := h i hi
  rw [show gt (ofT d n) i = (ofT d n)[i] by simp [gt, List.getD, hi]] at this
  simpa using this
theorem book_cases (d : Day) (X : Ent) : bookD d X = if (d.tks.length : Int) ≤ X.ticket then errD d 2 else if bookedB d.book X.ticket X.kind = true then errD d 5 else ({ d with book := d.book ++ [X] }, repL paidS [(d.book.length : Int)], 0) := rfl
theorem book_R {D : Imm} {d : Day} {t l b : Sl} {X : Ent} {a : Option Addr} {c : Nat} (h : DayR D d t l b) (hS : SlL D 3 ((d.book ++ [X]).map entC) a (d.book ++ [X]).length) (hc : (d.book ++ [X]).length ≤ c) (h5 : d.book.length ≤ 15) : DayR D { d with book := d.book ++ [X] } t l ⟨a, d.book.length + 1, c⟩ := by
  rw [List.length_append] at hS hc
  exact ⟨h.tks, h.looks, hS, ⟨h.len.1, h.len.2.1, by show d.book.length + 1 ≤ 1000; omega⟩, ⟨h.cap.1, h.cap.2.1, hc⟩⟩
theorem entF_g (x : Wick) (m s : Sl) (ls : List Int) (al : Option Addr) (nl cl : Nat) (D : Imm) (hls : SlL D 1 (ls.map intC) al nl) (hnl : ls.length = 1) (w : World) (hH : Holds D w) (kd : Int) : Gives Tryz.prog 339 [.agg #[it kd], (wickV x m s), .slice al nl cl] w (entV (⟨(gt ls 0), kd, if kd = 2 then x.fine else x.price⟩ : Ent)) := by
  unfold Gives
  obtain rfl := hls.len'
  refine en Tryz.func339 rfl Tryz.ntmps339 (Inv.start hH) (g [[1],[1,0,1,2]] ?_)
  refine WL.so (SO.box rfl rfl) rfl (zw fun b3 hb3 => ?_)
  refine WL.so (SO.box rfl rfl) rfl (zw fun b4 hb4 => ?_)
  refine WL.so (SO.alloc ZvF.h rfl) rfl (zw fun b6 hb6 => ?_)
  refine g [[3],[8,6,4,3,2],[6,7,6,4,3,2]] ?_
  refine WC.cond rfl (fun c12 => ?_) (fun c12 => ?_)
  · try simp only [zq] at c12
    refine g [[7,7,6,4,3,2],[0,7,6,3,2]] ?_
    refine WC.drawO [_, _] (pz [1,3,5,7,9,11,13,14]) zk zk zX (fun _ hI => hI.tail) (g [[1]] ?_)
    refine WA.yd rfl (Yd.ix rfl rfl (hls.addr 0 (by omega))) rfl (WA.yd rfl (Yd.l1 rfl ((hls.at 0 (by omega)).rd 0 rfl)) rfl (g [[4]] ?_))
    refine WA.so rfl (SO.store 0 rfl SzF.h rfl rfl rfl rfl (zqb rfl) (oneB_spec rfl)) rfl ?_
    rintro _ _ _ ⟨rfl, rfl, rfl⟩
    refine ⟨fun _ hI => hI.tail, ?_⟩
    refine g [[3]] ?_
    refine WP.ret1 rfl rfl rfl (RV.cellN AgF.h SzF.h rfl (vs := [_, _, _]) rfl (RdN.own (k := 0) (n := 3) rfl rfl)) (fun w hI => ⟨congrArg Ending.returned (by rw [if_pos (by assumption)]; rfl), hI.keep⟩)
  try simp only [zq] at c12
  refine g [[3],[0,7,6,3,2]] ?_
  refine WC.drawO [_, _] (pz [1,3,5,7,9,11,13,14]) zk zk zX (fun _ hI => hI.tail) (g [[1]] ?_)
  refine WA.yd rfl (Yd.ix rfl rfl (hls.addr 0 (by omega))) rfl (WA.yd rfl (Yd.l1 rfl ((hls.at 0 (by omega)).rd 0 rfl)) rfl (g [[4]] ?_))
  refine WA.so rfl (SO.store 0 rfl SzF.h rfl rfl rfl rfl (zqb rfl) (oneB_spec rfl)) rfl ?_
  rintro _ _ _ ⟨rfl, rfl, rfl⟩
  refine ⟨fun _ hI => hI.tail, ?_⟩
  refine g [[3]] ?_
  refine WP.ret1 rfl rfl rfl (RV.cellN AgF.h SzF.h rfl (vs := [_, _, _]) rfl (RdN.own (k := 0) (n := 3) rfl rfl)) (fun w hI => ⟨congrArg Ending.returned (by rw [if_neg (by assumption)]; rfl), hI.keep⟩)
theorem entG_g (x : Wick) (m s : Sl) (ls : List Int) (al : Option Addr) (nl cl : Nat) (D : Imm) (hls : SlL D 1 (ls.map intC) al nl) (hnl : ls.length = 2) (w : World) (hH : Holds D w) (kd : Int) : Gives Tryz.prog 341 [.agg #[it kd], (wickV x m s), .slice al nl cl] w (entV (⟨(gt ls 0), kd, (gt ls 1)⟩ : Ent)) := by
  unfold Gives
  obtain rfl := hls.len'
  refine en Tryz.func341 rfl Tryz.ntmps341 (Inv.start hH) (g [[1],[1,0,1,2]] ?_)
  refine WL.so (SO.box rfl rfl) rfl (zw fun b3 hb3 => ?_)
  refine WL.so (SO.box rfl rfl) rfl (zw fun b4 hb4 => ?_)
  refine WL.so (SO.alloc ZvF.h rfl) rfl (zw fun b6 hb6 => ?_)
  refine g [[3],[0,6,3,2],[3009],[1]] ?_
  refine WQ.q rfl (Yd.qt (Yd.ix rfl rfl (hls.addr 0 (by omega)))) rfl (WQ.q rfl (Yd.qt (Yd.l1 rfl ((hls.at 0 (by omega)).rd 0 rfl))) rfl (g [[4]] ?_))
  refine WQ.q rfl (Yd.qt (Yd.ix rfl rfl (hls.addr 0 (by omega)))) rfl (WQ.q rfl (Yd.qt (Yd.l1 rfl ((hls.at 1 (by omega)).rd 0 rfl))) rfl (g [[6]] ?_))
  refine WP.ret1 rfl rfl rfl (RV.cellN AgF.h SzF.h rfl (vs := [_, _, _]) rfl (RdN.own (k := 0) (n := 3) rfl rfl)) (fun w hI => ⟨congrArg Ending.returned rfl, hI.keep⟩)
theorem of_g (xb : Nat) (n : Int) (D : Imm) (w : World) (hH : Holds D w) : Makes Tryz.prog 226 [pt xb, it n] w D (fun v D' => ∃ bx bn, v = .func (.func 273) #[] #[pt bx, pt bn] ∧ D' bx = some (.cells (List.toArray [pt xb]) 50 (0, 0)) ∧ D' bn = some (.cells (List.toArray [it n]) 3 (0, 0))) := by
  unfold Makes
  refine en Tryz.func226 rfl Tryz.ntmps226 (Inv.start hH) (g [[1],[1,0,1]] ?_)
  refine WL.so (SO.box rfl rfl) rfl (zw fun b2 hb2 => ?_)
  refine WL.so (SO.box rfl rfl) rfl (zw fun b3 hb3 => ?_)
  refine g [[4]] ?_
  refine WC.freezeN 0 b3 (.cells (List.toArray [it n]) 3 (0, 0)) rfl rfl hb3 (fun D1 hX1 h3 => ?_)
  refine WC.freezeN 0 b2 (.cells (List.toArray [pt xb]) 50 (0, 0)) rfl rfl hb2 (fun D2 hX2 h2 => ?_)
  replace h3 := hX2.old _ _ h3
  refine g [[6,4,3,2]] ?_
  refine WP.ret1 rfl rfl rfl (RV.tmp rfl) (fun w1 hI => ⟨_, D2, rfl, hI.keep, hI.imm, hX1.trans hX2 (Nat.le_refl _), b2, b3, rfl, h2, h3⟩)
end Go.Proofs.YtejgofaeafphjaaGreatDoor
namespace Go.Proofs.YtejgofaeafphjaaGreatDoor
open Go.W Go.Ti
theorem bookedF_g (x : Wick) (d : Day) (m s t l b : Sl) (xb : Nat) (D : Imm) (w : World) (hw : wickB x = true) (hdo : DayOk x d) (hW : WickR D x m s) (hd : DayR D d t l b) (hL : LibW D) (ls : List Int) (al : Option Addr) (nl cl : Nat) (hls : SlL D 1 (ls.map intC) al nl) (hnl : ls.length = 1) (hll : nl ≤ 1000) (hI0 : Inv D [(xb, womO x m s t l b)] [xb] w w) (kd : Int) (bk : Nat) (hbk : D bk = some (.cells (List.toArray [.iface 218 (.agg #[it kd])]) 220 (0, 0))) : AltersV Tryz.prog 225 [pt xb, .slice al nl cl, pt bk] w D [xb] (PutK x m s xb (bookD d (⟨(gt ls 0), kd, if kd = 2 then x.fine else x.price⟩ : Ent))) (PutC x m s t l b xb (bookD d (⟨(gt ls 0), kd, if kd = 2 then x.fine else x.price⟩ : Ent))) := by
  unfold AltersV
  obtain rfl := hls.len'
  have htn : t.n = d.tks.length := hd.tks.len'
  have hbn' : b.n = d.book.length := hd.book.len'
  have hb3 := hd.len
  obtain ⟨hxn, hI1⟩ := lendI hI0
  have hd0 := hd
  have hL0 := hL
  have hXx : DExt { w with heap := #[] } D (D.add xb (womO x m s t l b)) := ⟨add_old hxn, fun b h => by simp at h⟩
  replace hW := hW.ext hXx
  replace hd := hd.ext hXx
  replace hL := hL.ext hXx
  replace hls := hls.ext hXx
  replace hbk := hXx.old _ _ hbk
  have hxD := Imm.add_self D xb (womO x m s t l b)
  refine enN Tryz.func225 rfl Tryz.ntmps225 hI1 (g [[2],[6,0,1,2],[0,5,0,1,2],[3009],[1]] ?_)
  refine WQ.q rfl (Yd.qt (Yd.ix rfl rfl (hls.addr 0 (by omega)))) rfl (WQ.q rfl (Yd.qt (Yd.l1 rfl ((hls.at 0 (by omega)).rd 0 rfl))) rfl (g [[8]] ?_))
  refine WL.part 17 rfl (fun g17 => ?_) (fun g17 => ?_)
  · try simp only [zq] at g17
    refine WL.cl rfl (fun w hI => mustW_ok _ _) (g [[4],[0,5,0,1,2]] ?_)
    refine WC.drawH [] zk (fun _ hI => hI.nil) (g [[1000],[1001],[1002],[1003],[1004],[1005],[1006]] ?_)
    refine WH.yd (i := 7) zk zX rfl (Yd.nilCheckM rfl (fun w => by kernel_rfl)) rfl (g [[1008]] ?_)
    refine WH.two (i := 9) (j := 10) zk ?_ ?_
    · refine WHo.so rfl (SO.call (Enters.meth CaF.h (fun w => by kernel_rfl) rfl rfl) (fun w hI => entF_g x m s ls al _ cl _ hls hnl _ hI.imm kd)) rfl ?_
      rintro _ _ _ ⟨rfl, rfl, rfl⟩
      refine ⟨(fun _ hI => hI.nil), ?_⟩
      refine WH.one (i := 10) zk (WHo.so rfl (SO.alloc ZvF.h rfl) rfl ?_)
      rintro _ _ _ ⟨b6, hb6, rfl, rfl, rfl⟩
      refine ⟨(fun _ hI => hI.nil), ?_⟩
      refine WH.one (i := 11) zk (WHo.so rfl (SO.store 0 rfl SzF.h rfl rfl rfl rfl (zqb rfl) (oneB_spec rfl)) rfl ?_)
      rintro _ _ _ ⟨rfl, rfl, rfl⟩
      refine ⟨(fun _ hI => hI.nil), ?_⟩
      refine WH.nil zk (g [[4],[4,6,5,0]] ?_)
      refine WL.so (SO.makes (Enters.func Tryz.call226 rfl) (fun w hI => of_g xb (gt ls 0) _ _ hI.imm)) rfl ?_
      rintro _ D2 _ ⟨hX2, ⟨bx, bn, rfl, hbx, hbn⟩, rfl⟩
      have hxD2 := hX2.old _ _ hxD
      replace hd := hd.ext hX2
      replace hL := hL.ext hX2
      refine g [[3],[0,0,6,32]] ?_
      refine WCn.rangeIterP (gf := 273) (lb := [pt bx, pt bn]) (N := (ofT d (gt ls 0)).length) (arg := fun k => entV (gt (ofT d (gt ls 0)) k)) [] [(b6, .cells (List.toArray (entC (⟨(gt ls 0), kd, if kd = 2 then x.fine else x.price⟩ : Ent))) 46 (0, 0))] rfl Tryz.func225 (fun w' _ _ => of_iter x d m s t l b xb (gt ls 0) bx bn D2 hxD2 hd hbx hbn w') rfl Tryz.call273 rfl (fun k _ h => h = [(b6, .cells (List.toArray (entC (⟨(gt ls 0), kd, if kd = 2 then x.fine else x.price⟩ : Ent))) 46 (0, 0))] ∧ ∀ j, j < k → ¬ (gt (ofT d (gt ls 0)) j).kind = (⟨(gt ls 0), kd, if kd = 2 then x.fine else x.price⟩ : Ent).kind) (fun ch _ h => ch = stopW 5 ∧ h = [(b6, .cells (List.toArray (entC (⟨(gt ls 0), kd, if kd = 2 then x.fine else x.price⟩ : Ent))) 46 (0, 0))] ∧ bookedB d.book (gt ls 0) (⟨(gt ls 0), kd, if kd = 2 then x.fine else x.price⟩ : Ent).kind = true) (fun _ _ _ _ _ h => h) ⟨rfl, by intro j hj; omega⟩ ?_ ?_ ?_
      · rintro rec l2 Dn k D5 _ w1 hrec hk ⟨rfl, hd5⟩ hX5 hsz
        unfold RoundGP
        refine g [[1,33,6]] ?_
        refine WLF.so (zn rfl) (SO.alloc ZvF.h rfl) rfl (zw fun b7 hb7 => ?_)
        refine g [[2]] ?_
        refine WP.iterBegin 1 rfl hrec (g [[1],[6,7,6]] ?_)
        refine WLF.part 38 rfl (fun g38 => ?_) (fun g38 => ?_)
        · try simp only [zq] at g38
          refine WLF.cl rfl (fun w hI => mustW_ok _ _) (g [[2]] ?_)
          exact WP.iterOnP hrec (pre := [(Dn, _)]) (h1 := [(b6, .cells (List.toArray (entC (⟨(gt ls 0), kd, if kd = 2 then x.fine else x.price⟩ : Ent))) 46 (0, 0))]) zU1 zU2 (DExt.refl _ _) ⟨rfl, ext_roundN hd5 g38⟩
        try simp only [zq] at g38
        refine WLF.no (zn rfl) (SO.fail (Enters.func CaF.h rfl) (fun w hI => mustW_no _ _) (g [[1]] ?_))
        exact WP.iterPanic (pre := [(Dn, _)]) (h1 := [(b6, .cells (List.toArray (entC (⟨(gt ls 0), kd, if kd = 2 then x.fine else x.price⟩ : Ent))) 46 (0, 0))]) rfl zU1 zU2 (DExt.refl _ _) ⟨rfl, rfl, booked_y hk (Decidable.not_not.1 g38)⟩
      · rintro Dn D6 _ hsz hX6 ⟨rfl, hd6⟩
        refine g [[4]] ?_
        have hbf : bookedB d.book (gt ls 0) (⟨(gt ls 0), kd, if kd = 2 then x.fine else x.price⟩ : Ent).kind = false := booked_n hd6
        have hxD6 := hX6.old _ _ hxD2
        refine WC.thawS hxD6 (.inl (by simp)) ?_
        refine WC.hpPerm [(Dn, _), (xb, _), (b6, .cells (List.toArray (entC (⟨(gt ls 0), kd, if kd = 2 then x.fine else x.price⟩ : Ent))) 46 (0, 0))] (List.Perm.swap _ _ _) ?_
        have hXa := DExt.lent hxn (hX2.trans hX6 (Nat.le_refl _))
        have hLa := hL0.ext hXa
        have hda := hd0.ext hXa
        clear hL hd
        have hL := hLa
        have hd := hda
        clear hLa hda
        generalize D6.minus xb = D7 at hXa hd hL ⊢
        refine g [[0,0,6]] ?_
        refine WC.drawD [_] (pz [1,3,5,7,9,13,10,14,17,19,21,22]) zk zk zX (fun _ hI => hI.tail.tail) (g [[6]] ?_)
        refine WA.so rfl (SO.ofYd (Yd.l1 rfl (Rd.own (k := 1) rfl rfl))) rfl ?_
        rintro _ _ _ ⟨rfl, rfl, rfl⟩
        refine ⟨fun _ hI => hI.tail.tail, ?_⟩
        refine WA.so rfl (SO.makes (Enters.func Tryz.call227 rfl) (fun w1 hI => grownEnt_g d.book (⟨(gt ls 0), kd, if kd = 2 then x.fine else x.price⟩ : Ent) b.a _ b.c _ hd.book hd.len.2.2 w1 hI.imm)) rfl ?_
        rintro _ D8 _ ⟨hX8, ⟨a2, c2, rfl, hS2, hc2⟩, rfl⟩
        replace hL := hL.ext hX8
        have hd8 := hd.ext hX8
        refine ⟨fun _ hI => hI.tail.tail.shrink hX8.old, ?_⟩
        refine g [[3]] ?_
        refine WA.so rfl (SO.store 1 rfl SzF.h rfl rfl rfl rfl (zqb rfl) (oneB_spec rfl)) rfl ?_
        rintro _ _ _ ⟨rfl, rfl, rfl⟩
        refine ⟨fun _ hI => hI.tail.tail.shrink hX8.old, ?_⟩
        refine g [[4],[8,0]] ?_
        refine WL.know 57 (it ((d.book.length : Int) + 1)) rfl (by rw [List.length_append]; rfl) (g [[1]] ?_)
        refine WL.know 58 (it (d.book.length : Int)) rfl (by rw [show (d.book.length : Int) + 1 - 1 = d.book.length by omega]) (g [[1]] ?_)
        refine WL.so (SO.buildSlice1 UnF.h SzF.h ZvF.h rfl rfl rfl (vs := [_, _]) rfl rfl rfl) rfl ?_
        rintro _ _ _ ⟨b60, hb60, rfl, rfl, rfl⟩
        refine WL.freezeN 0 b60 (.cells (List.toArray ([Pt.s paidS, Pt.n (d.book.length : Int)].flatMap ptI ++ [])) 20 (0, 0)) rfl rfl hb60 (fun D9 hX9 h60 => ?_)
        refine WL.cl rfl (fun w hI => told_g [Pt.s paidS, Pt.n (d.book.length : Int)] (some ⟨b60, 0, none⟩) 2 2 D9 (hL.ext hX9) (SlL.ofBlock ptI_len h60) (by decide) (by intro p hp; simp only [List.mem_cons, List.not_mem_nil, or_false] at hp; rcases hp with rfl | rfl; exact (show List.length _ ≤ 100 by decide); exact (by unfold ptB; unfold i64B; omega)) _ hI.imm) (g [[5]] ?_)
        refine WP.retMs [Dn] [(xb, _)] [_] [_] rfl rfl zU1 zU2 rfl zV (fun w1 hI => ⟨D9, _, (hXa.trans hX8 (Nat.le_refl _)).trans hX9 (Nat.le_refl _), hI, .inl ⟨_, rfl, by rw [book_cases, if_neg (by dsimp only; omega), if_neg (by rw [hbf]; simp)]; exact ⟨rfl, by rw [← told_rep _ [_]]; rfl, t, l, ⟨a2, d.book.length + 1, c2⟩, womO_b, book_R (hd8.ext hX9) (hS2.ext hX9) hc2 (by have := ent_len hdo; omega)⟩⟩⟩)
      rintro Dn ch D6 _ hsz hX6 ⟨rfl, rfl, hbt⟩
      refine g [[2]] ?_
      first
        | exact WP.panicMs [] [] rfl zU1 zU2 (fun w1 hI => ⟨_, _, DExt.lent hxn (DExt.refl _ _), hI.thawS hxD (.inl (by simp)), .inr ⟨_, rfl, by rw [book_cases, if_pos (by dsimp only; omega)]; exact ⟨by simp [errD], rfl, rfl⟩⟩⟩)
        | exact WP.panicMs [Dn] [] rfl zU1 zU2 (fun w1 hI => ⟨_, _, DExt.lent hxn (hX2.trans hX6 (Nat.le_refl _)), hI.thawS (hX6.old _ _ hxD2) (.inl (by simp)), .inr ⟨_, rfl, by rw [book_cases, if_neg (by dsimp only; omega), if_pos hbt]; exact ⟨by simp [errD], rfl, rfl⟩⟩⟩)
    refine WHo.so rfl (SO.alloc ZvF.h rfl) rfl ?_
    rintro _ _ _ ⟨b6, hb6, rfl, rfl, rfl⟩
    refine ⟨(fun _ hI => hI.nil), ?_⟩
    refine WH.know 23 (wickV x m s) rfl rfl ?_
    refine WH.one (i := 9) zk (WHo.so rfl (SO.call (Enters.meth CaF.h (fun w => by kernel_rfl) rfl rfl) (fun w hI => entF_g x m s ls al _ cl _ hls hnl _ hI.imm kd)) rfl ?_)
    rintro _ _ _ ⟨rfl, rfl, rfl⟩
    refine ⟨(fun _ hI => hI.nil), ?_⟩
    refine WH.one (i := 11) zk (WHo.so rfl (SO.store 0 rfl SzF.h rfl rfl rfl rfl (zqb rfl) (oneB_spec rfl)) rfl ?_)
    rintro _ _ _ ⟨rfl, rfl, rfl⟩
    refine ⟨(fun _ hI => hI.nil), ?_⟩
    refine WH.nil zk (g [[4],[4,6,5,0]] ?_)
    refine WL.so (SO.makes (Enters.func Tryz.call226 rfl) (fun w hI => of_g xb (gt ls 0) _ _ hI.imm)) rfl ?_
    rintro _ D2 _ ⟨hX2, ⟨bx, bn, rfl, hbx, hbn⟩, rfl⟩
    have hxD2 := hX2.old _ _ hxD
    replace hd := hd.ext hX2
    replace hL := hL.ext hX2
    refine g [[3],[0,0,6,32]] ?_
    refine WCn.rangeIterP (gf := 273) (lb := [pt bx, pt bn]) (N := (ofT d (gt ls 0)).length) (arg := fun k => entV (gt (ofT d (gt ls 0)) k)) [] [(b6, .cells (List.toArray (entC (⟨(gt ls 0), kd, if kd = 2 then x.fine else x.price⟩ : Ent))) 46 (0, 0))] rfl Tryz.func225 (fun w' _ _ => of_iter x d m s t l b xb (gt ls 0) bx bn D2 hxD2 hd hbx hbn w') rfl Tryz.call273 rfl (fun k _ h => h = [(b6, .cells (List.toArray (entC (⟨(gt ls 0), kd, if kd = 2 then x.fine else x.price⟩ : Ent))) 46 (0, 0))] ∧ ∀ j, j < k → ¬ (gt (ofT d (gt ls 0)) j).kind = (⟨(gt ls 0), kd, if kd = 2 then x.fine else x.price⟩ : Ent).kind) (fun ch _ h => ch = stopW 5 ∧ h = [(b6, .cells (List.toArray (entC (⟨(gt ls 0), kd, if kd = 2 then x.fine else x.price⟩ : Ent))) 46 (0, 0))] ∧ bookedB d.book (gt ls 0) (⟨(gt ls 0), kd, if kd = 2 then x.fine else x.price⟩ : Ent).kind = true) (fun _ _ _ _ _ h => h) ⟨rfl, by intro j hj; omega⟩ ?_ ?_ ?_
    · rintro rec l2 Dn k D5 _ w1 hrec hk ⟨rfl, hd5⟩ hX5 hsz
      unfold RoundGP
      refine g [[1,33,6]] ?_
      refine WLF.so (zn rfl) (SO.alloc ZvF.h rfl) rfl (zw fun b7 hb7 => ?_)
      refine g [[2]] ?_
      refine WP.iterBegin 1 rfl hrec (g [[1],[6,7,6]] ?_)
      refine WLF.part 38 rfl (fun g38 => ?_) (fun g38 => ?_)
      · try simp only [zq] at g38
        refine WLF.cl rfl (fun w hI => mustW_ok _ _) (g [[2]] ?_)
        exact WP.iterOnP hrec (pre := [(Dn, _)]) (h1 := [(b6, .cells (List.toArray (entC (⟨(gt ls 0), kd, if kd = 2 then x.fine else x.price⟩ : Ent))) 46 (0, 0))]) zU1 zU2 (DExt.refl _ _) ⟨rfl, ext_roundN hd5 g38⟩
      try simp only [zq] at g38
      refine WLF.no (zn rfl) (SO.fail (Enters.func CaF.h rfl) (fun w hI => mustW_no _ _) (g [[1]] ?_))
      exact WP.iterPanic (pre := [(Dn, _)]) (h1 := [(b6, .cells (List.toArray (entC (⟨(gt ls 0), kd, if kd = 2 then x.fine else x.price⟩ : Ent))) 46 (0, 0))]) rfl zU1 zU2 (DExt.refl _ _) ⟨rfl, rfl, booked_y hk (Decidable.not_not.1 g38)⟩
    · rintro Dn D6 _ hsz hX6 ⟨rfl, hd6⟩
      refine g [[4]] ?_
      have hbf : bookedB d.book (gt ls 0) (⟨(gt ls 0), kd, if kd = 2 then x.fine else x.price⟩ : Ent).kind = false := booked_n hd6
      have hxD6 := hX6.old _ _ hxD2
      refine WC.thawS hxD6 (.inl (by simp)) ?_
      refine WC.hpPerm [(Dn, _), (xb, _), (b6, .cells (List.toArray (entC (⟨(gt ls 0), kd, if kd = 2 then x.fine else x.price⟩ : Ent))) 46 (0, 0))] (List.Perm.swap _ _ _) ?_
      have hXa := DExt.lent hxn (hX2.trans hX6 (Nat.le_refl _))
      have hLa := hL0.ext hXa
      have hda := hd0.ext hXa
      clear hL hd
      have hL := hLa
      have hd := hda
      clear hLa hda
      generalize D6.minus xb = D7 at hXa hd hL ⊢
      refine g [[0,0,6]] ?_
      refine WC.drawD [_] (pz [1,3,5,7,9,13,10,14,17,19,21,22]) zk zk zX (fun _ hI => hI.tail.tail) (g [[6]] ?_)
      refine WA.so rfl (SO.ofYd (Yd.l1 rfl (Rd.own (k := 1) rfl rfl))) rfl ?_
      rintro _ _ _ ⟨rfl, rfl, rfl⟩
      refine ⟨fun _ hI => hI.tail.tail, ?_⟩
      refine WA.so rfl (SO.makes (Enters.func Tryz.call227 rfl) (fun w1 hI => grownEnt_g d.book (⟨(gt ls 0), kd, if kd = 2 then x.fine else x.price⟩ : Ent) b.a _ b.c _ hd.book hd.len.2.2 w1 hI.imm)) rfl ?_
      rintro _ D8 _ ⟨hX8, ⟨a2, c2, rfl, hS2, hc2⟩, rfl⟩
      replace hL := hL.ext hX8
      have hd8 := hd.ext hX8
      refine ⟨fun _ hI => hI.tail.tail.shrink hX8.old, ?_⟩
      refine g [[3]] ?_
      refine WA.so rfl (SO.store 1 rfl SzF.h rfl rfl rfl rfl (zqb rfl) (oneB_spec rfl)) rfl ?_
      rintro _ _ _ ⟨rfl, rfl, rfl⟩
      refine ⟨fun _ hI => hI.tail.tail.shrink hX8.old, ?_⟩
      refine g [[4],[8,0]] ?_
      refine WL.know 57 (it ((d.book.length : Int) + 1)) rfl (by rw [List.length_append]; rfl) (g [[1]] ?_)
      refine WL.know 58 (it (d.book.length : Int)) rfl (by rw [show (d.book.length : Int) + 1 - 1 = d.book.length by omega]) (g [[1]] ?_)
      refine WL.so (SO.buildSlice1 UnF.h SzF.h ZvF.h rfl rfl rfl (vs := [_, _]) rfl rfl rfl) rfl ?_
      rintro _ _ _ ⟨b60, hb60, rfl, rfl, rfl⟩
      refine WL.freezeN 0 b60 (.cells (List.toArray ([Pt.s paidS, Pt.n (d.book.length : Int)].flatMap ptI ++ [])) 20 (0, 0)) rfl rfl hb60 (fun D9 hX9 h60 => ?_)
      refine WL.cl rfl (fun w hI => told_g [Pt.s paidS, Pt.n (d.book.length : Int)] (some ⟨b60, 0, none⟩) 2 2 D9 (hL.ext hX9) (SlL.ofBlock ptI_len h60) (by decide) (by intro p hp; simp only [List.mem_cons, List.not_mem_nil, or_false] at hp; rcases hp with rfl | rfl; exact (show List.length _ ≤ 100 by decide); exact (by unfold ptB; unfold i64B; omega)) _ hI.imm) (g [[5]] ?_)
      refine WP.retMs [Dn] [(xb, _)] [_] [_] rfl rfl zU1 zU2 rfl zV (fun w1 hI => ⟨D9, _, (hXa.trans hX8 (Nat.le_refl _)).trans hX9 (Nat.le_refl _), hI, .inl ⟨_, rfl, by rw [book_cases, if_neg (by dsimp only; omega), if_neg (by rw [hbf]; simp)]; exact ⟨rfl, by rw [← told_rep _ [_]]; rfl, t, l, ⟨a2, d.book.length + 1, c2⟩, womO_b, book_R (hd8.ext hX9) (hS2.ext hX9) hc2 (by have := ent_len hdo; omega)⟩⟩⟩)
    rintro Dn ch D6 _ hsz hX6 ⟨rfl, rfl, hbt⟩
    refine g [[2]] ?_
    first
      | exact WP.panicMs [] [] rfl zU1 zU2 (fun w1 hI => ⟨_, _, DExt.lent hxn (DExt.refl _ _), hI.thawS hxD (.inl (by simp)), .inr ⟨_, rfl, by rw [book_cases, if_pos (by dsimp only; omega)]; exact ⟨by simp [errD], rfl, rfl⟩⟩⟩)
      | exact WP.panicMs [Dn] [] rfl zU1 zU2 (fun w1 hI => ⟨_, _, DExt.lent hxn (hX2.trans hX6 (Nat.le_refl _)), hI.thawS (hX6.old _ _ hxD2) (.inl (by simp)), .inr ⟨_, rfl, by rw [book_cases, if_neg (by dsimp only; omega), if_pos hbt]; exact ⟨by simp [errD], rfl, rfl⟩⟩⟩)
  try simp only [zq] at g17
  refine WL.nf rfl (fun w hI => mustW_no _ _) (g [[1]] ?_)
  first
    | exact WP.panicMs [] [] rfl zU1 zU2 (fun w1 hI => ⟨_, _, DExt.lent hxn (DExt.refl _ _), hI.thawS hxD (.inl (by simp)), .inr ⟨_, rfl, by rw [book_cases, if_pos (by dsimp only; omega)]; exact ⟨by simp [errD], rfl, rfl⟩⟩⟩)
    | exact WP.panicMs [Dn] [] rfl zU1 zU2 (fun w1 hI => ⟨_, _, DExt.lent hxn (hX2.trans hX6 (Nat.le_refl _)), hI.thawS (hX6.old _ _ hxD2) (.inl (by simp)), .inr ⟨_, rfl, by rw [book_cases, if_neg (by dsimp only; omega), if_pos hbt]; exact ⟨by simp [errD], rfl, rfl⟩⟩⟩)
theorem bookedG_g (x : Wick) (d : Day) (m s t l b : Sl) (xb : Nat) (D : Imm) (w : World) (hw : wickB x = true) (hdo : DayOk x d) (hW : WickR D x m s) (hd : DayR D d t l b) (hL : LibW D) (ls : List Int) (al : Option Addr) (nl cl : Nat) (hls : SlL D 1 (ls.map intC) al nl) (hnl : ls.length = 2) (hll : nl ≤ 1000) (hI0 : Inv D [(xb, womO x m s t l b)] [xb] w w) (kd : Int) (bk : Nat) (hbk : D bk = some (.cells (List.toArray [.iface 222 (.agg #[it kd])]) 220 (0, 0))) : AltersV Tryz.prog 225 [pt xb, .slice al nl cl, pt bk] w D [xb] (PutK x m s xb (bookD d (⟨(gt ls 0), kd, (gt ls 1)⟩ : Ent))) (PutC x m s t l b xb (bookD d (⟨(gt ls 0), kd, (gt ls 1)⟩ : Ent))) := by
  unfold AltersV
  obtain rfl := hls.len'
  have htn : t.n = d.tks.length := hd.tks.len'
  have hbn' : b.n = d.book.length := hd.book.len'
  have hb3 := hd.len
  obtain ⟨hxn, hI1⟩ := lendI hI0
  have hd0 := hd
  have hL0 := hL
  have hXx : DExt { w with heap := #[] } D (D.add xb (womO x m s t l b)) := ⟨add_old hxn, fun b h => by simp at h⟩
  replace hW := hW.ext hXx
  replace hd := hd.ext hXx
  replace hL := hL.ext hXx
  replace hls := hls.ext hXx
  replace hbk := hXx.old _ _ hbk
  have hxD := Imm.add_self D xb (womO x m s t l b)
  refine enN Tryz.func225 rfl Tryz.ntmps225 hI1 (g [[2],[6,0,1,2],[0,5,0,1,2],[3009],[1]] ?_)
  refine WQ.q rfl (Yd.qt (Yd.ix rfl rfl (hls.addr 0 (by omega)))) rfl (WQ.q rfl (Yd.qt (Yd.l1 rfl ((hls.at 0 (by omega)).rd 0 rfl))) rfl (g [[8]] ?_))
  refine WL.part 17 rfl (fun g17 => ?_) (fun g17 => ?_)
  · try simp only [zq] at g17
    refine WL.cl rfl (fun w hI => mustW_ok _ _) (g [[4],[0,5,0,1,2]] ?_)
    refine WC.drawH [] zk (fun _ hI => hI.nil) (g [[1000],[1001],[1002],[1003],[1004],[1005],[1006]] ?_)
    refine WH.yd (i := 7) zk zX rfl (Yd.nilCheckM rfl (fun w => by kernel_rfl)) rfl (g [[1008]] ?_)
    refine WH.two (i := 9) (j := 10) zk ?_ ?_
    · refine WHo.so rfl (SO.call (Enters.meth CaF.h (fun w => by kernel_rfl) rfl rfl) (fun w hI => entG_g x m s ls al _ cl _ hls hnl _ hI.imm kd)) rfl ?_
      rintro _ _ _ ⟨rfl, rfl, rfl⟩
      refine ⟨(fun _ hI => hI.nil), ?_⟩
      refine WH.one (i := 10) zk (WHo.so rfl (SO.alloc ZvF.h rfl) rfl ?_)
      rintro _ _ _ ⟨b6, hb6, rfl, rfl, rfl⟩
      refine ⟨(fun _ hI => hI.nil), ?_⟩
      refine WH.one (i := 11) zk (WHo.so rfl (SO.store 0 rfl SzF.h rfl rfl rfl rfl (zqb rfl) (oneB_spec rfl)) rfl ?_)
      rintro _ _ _ ⟨rfl, rfl, rfl⟩
      refine ⟨(fun _ hI => hI.nil), ?_⟩
      refine WH.nil zk (g [[4],[4,6,5,0]] ?_)
      refine WL.so (SO.makes (Enters.func Tryz.call226 rfl) (fun w hI => of_g xb (gt ls 0) _ _ hI.imm)) rfl ?_
      rintro _ D2 _ ⟨hX2, ⟨bx, bn, rfl, hbx, hbn⟩, rfl⟩
      have hxD2 := hX2.old _ _ hxD
      replace hd := hd.ext hX2
      replace hL := hL.ext hX2
      refine g [[3],[0,0,6,32]] ?_
      refine WCn.rangeIterP (gf := 273) (lb := [pt bx, pt bn]) (N := (ofT d (gt ls 0)).length) (arg := fun k => entV (gt (ofT d (gt ls 0)) k)) [] [(b6, .cells (List.toArray (entC (⟨(gt ls 0), kd, (gt ls 1)⟩ : Ent))) 46 (0, 0))] rfl Tryz.func225 (fun w' _ _ => of_iter x d m s t l b xb (gt ls 0) bx bn D2 hxD2 hd hbx hbn w') rfl Tryz.call273 rfl (fun k _ h => h = [(b6, .cells (List.toArray (entC (⟨(gt ls 0), kd, (gt ls 1)⟩ : Ent))) 46 (0, 0))] ∧ ∀ j, j < k → ¬ (gt (ofT d (gt ls 0)) j).kind = (⟨(gt ls 0), kd, (gt ls 1)⟩ : Ent).kind) (fun ch _ h => ch = stopW 5 ∧ h = [(b6, .cells (List.toArray (entC (⟨(gt ls 0), kd, (gt ls 1)⟩ : Ent))) 46 (0, 0))] ∧ bookedB d.book (gt ls 0) (⟨(gt ls 0), kd, (gt ls 1)⟩ : Ent).kind = true) (fun _ _ _ _ _ h => h) ⟨rfl, by intro j hj; omega⟩ ?_ ?_ ?_
      · rintro rec l2 Dn k D5 _ w1 hrec hk ⟨rfl, hd5⟩ hX5 hsz
        unfold RoundGP
        refine g [[1,33,6]] ?_
        refine WLF.so (zn rfl) (SO.alloc ZvF.h rfl) rfl (zw fun b7 hb7 => ?_)
        refine g [[2]] ?_
        refine WP.iterBegin 1 rfl hrec (g [[1],[6,7,6]] ?_)
        refine WLF.part 38 rfl (fun g38 => ?_) (fun g38 => ?_)
        · try simp only [zq] at g38
          refine WLF.cl rfl (fun w hI => mustW_ok _ _) (g [[2]] ?_)
          exact WP.iterOnP hrec (pre := [(Dn, _)]) (h1 := [(b6, .cells (List.toArray (entC (⟨(gt ls 0), kd, (gt ls 1)⟩ : Ent))) 46 (0, 0))]) zU1 zU2 (DExt.refl _ _) ⟨rfl, ext_roundN hd5 g38⟩
        try simp only [zq] at g38
        refine WLF.no (zn rfl) (SO.fail (Enters.func CaF.h rfl) (fun w hI => mustW_no _ _) (g [[1]] ?_))
        exact WP.iterPanic (pre := [(Dn, _)]) (h1 := [(b6, .cells (List.toArray (entC (⟨(gt ls 0), kd, (gt ls 1)⟩ : Ent))) 46 (0, 0))]) rfl zU1 zU2 (DExt.refl _ _) ⟨rfl, rfl, booked_y hk (Decidable.not_not.1 g38)⟩
      · rintro Dn D6 _ hsz hX6 ⟨rfl, hd6⟩
        refine g [[4]] ?_
        have hbf : bookedB d.book (gt ls 0) (⟨(gt ls 0), kd, (gt ls 1)⟩ : Ent).kind = false := booked_n hd6
        have hxD6 := hX6.old _ _ hxD2
        refine WC.thawS hxD6 (.inl (by simp)) ?_
        refine WC.hpPerm [(Dn, _), (xb, _), (b6, .cells (List.toArray (entC (⟨(gt ls 0), kd, (gt ls 1)⟩ : Ent))) 46 (0, 0))] (List.Perm.swap _ _ _) ?_
        have hXa := DExt.lent hxn (hX2.trans hX6 (Nat.le_refl _))
        have hLa := hL0.ext hXa
        have hda := hd0.ext hXa
        clear hL hd
        have hL := hLa
        have hd := hda
        clear hLa hda
        generalize D6.minus xb = D7 at hXa hd hL ⊢
        refine g [[0,0,6]] ?_
        refine WC.drawD [_] (pz [1,3,5,7,9,13,10,14,17,19,21,22]) zk zk zX (fun _ hI => hI.tail.tail) (g [[6]] ?_)
        refine WA.so rfl (SO.ofYd (Yd.l1 rfl (Rd.own (k := 1) rfl rfl))) rfl ?_
        rintro _ _ _ ⟨rfl, rfl, rfl⟩
        refine ⟨fun _ hI => hI.tail.tail, ?_⟩
        refine WA.so rfl (SO.makes (Enters.func Tryz.call227 rfl) (fun w1 hI => grownEnt_g d.book (⟨(gt ls 0), kd, (gt ls 1)⟩ : Ent) b.a _ b.c _ hd.book hd.len.2.2 w1 hI.imm)) rfl ?_
        rintro _ D8 _ ⟨hX8, ⟨a2, c2, rfl, hS2, hc2⟩, rfl⟩
        replace hL := hL.ext hX8
        have hd8 := hd.ext hX8
        refine ⟨fun _ hI => hI.tail.tail.shrink hX8.old, ?_⟩
        refine g [[3]] ?_
        refine WA.so rfl (SO.store 1 rfl SzF.h rfl rfl rfl rfl (zqb rfl) (oneB_spec rfl)) rfl ?_
        rintro _ _ _ ⟨rfl, rfl, rfl⟩
        refine ⟨fun _ hI => hI.tail.tail.shrink hX8.old, ?_⟩
        refine g [[4],[8,0]] ?_
        refine WL.know 57 (it ((d.book.length : Int) + 1)) rfl (by rw [List.length_append]; rfl) (g [[1]] ?_)
        refine WL.know 58 (it (d.book.length : Int)) rfl (by rw [show (d.book.length : Int) + 1 - 1 = d.book.length by omega]) (g [[1]] ?_)
        refine WL.so (SO.buildSlice1 UnF.h SzF.h ZvF.h rfl rfl rfl (vs := [_, _]) rfl rfl rfl) rfl ?_
        rintro _ _ _ ⟨b60, hb60, rfl, rfl, rfl⟩
        refine WL.freezeN 0 b60 (.cells (List.toArray ([Pt.s paidS, Pt.n (d.book.length : Int)].flatMap ptI ++ [])) 20 (0, 0)) rfl rfl hb60 (fun D9 hX9 h60 => ?_)
        refine WL.cl rfl (fun w hI => told_g [Pt.s paidS, Pt.n (d.book.length : Int)] (some ⟨b60, 0, none⟩) 2 2 D9 (hL.ext hX9) (SlL.ofBlock ptI_len h60) (by decide) (by intro p hp; simp only [List.mem_cons, List.not_mem_nil, or_false] at hp; rcases hp with rfl | rfl; exact (show List.length _ ≤ 100 by decide); exact (by unfold ptB; unfold i64B; omega)) _ hI.imm) (g [[5]] ?_)
        refine WP.retMs [Dn] [(xb, _)] [_] [_] rfl rfl zU1 zU2 rfl zV (fun w1 hI => ⟨D9, _, (hXa.trans hX8 (Nat.le_refl _)).trans hX9 (Nat.le_refl _), hI, .inl ⟨_, rfl, by rw [book_cases, if_neg (by dsimp only; omega), if_neg (by rw [hbf]; simp)]; exact ⟨rfl, by rw [← told_rep _ [_]]; rfl, t, l, ⟨a2, d.book.length + 1, c2⟩, womO_b, book_R (hd8.ext hX9) (hS2.ext hX9) hc2 (by have := ent_len hdo; omega)⟩⟩⟩)
      rintro Dn ch D6 _ hsz hX6 ⟨rfl, rfl, hbt⟩
      refine g [[2]] ?_
      first
        | exact WP.panicMs [] [] rfl zU1 zU2 (fun w1 hI => ⟨_, _, DExt.lent hxn (DExt.refl _ _), hI.thawS hxD (.inl (by simp)), .inr ⟨_, rfl, by rw [book_cases, if_pos (by dsimp only; omega)]; exact ⟨by simp [errD], rfl, rfl⟩⟩⟩)
        | exact WP.panicMs [Dn] [] rfl zU1 zU2 (fun w1 hI => ⟨_, _, DExt.lent hxn (hX2.trans hX6 (Nat.le_refl _)), hI.thawS (hX6.old _ _ hxD2) (.inl (by simp)), .inr ⟨_, rfl, by rw [book_cases, if_neg (by dsimp only; omega), if_pos hbt]; exact ⟨by simp [errD], rfl, rfl⟩⟩⟩)
    refine WHo.so rfl (SO.alloc ZvF.h rfl) rfl ?_
    rintro _ _ _ ⟨b6, hb6, rfl, rfl, rfl⟩
    refine ⟨(fun _ hI => hI.nil), ?_⟩
    refine WH.know 23 (wickV x m s) rfl rfl ?_
    refine WH.one (i := 9) zk (WHo.so rfl (SO.call (Enters.meth CaF.h (fun w => by kernel_rfl) rfl rfl) (fun w hI => entG_g x m s ls al _ cl _ hls hnl _ hI.imm kd)) rfl ?_)
    rintro _ _ _ ⟨rfl, rfl, rfl⟩
    refine ⟨(fun _ hI => hI.nil), ?_⟩
    refine WH.one (i := 11) zk (WHo.so rfl (SO.store 0 rfl SzF.h rfl rfl rfl rfl (zqb rfl) (oneB_spec rfl)) rfl ?_)
    rintro _ _ _ ⟨rfl, rfl, rfl⟩
    refine ⟨(fun _ hI => hI.nil), ?_⟩
    refine WH.nil zk (g [[4],[4,6,5,0]] ?_)
    refine WL.so (SO.makes (Enters.func Tryz.call226 rfl) (fun w hI => of_g xb (gt ls 0) _ _ hI.imm)) rfl ?_
    rintro _ D2 _ ⟨hX2, ⟨bx, bn, rfl, hbx, hbn⟩, rfl⟩
    have hxD2 := hX2.old _ _ hxD
    replace hd := hd.ext hX2
    replace hL := hL.ext hX2
    refine g [[3],[0,0,6,32]] ?_
    refine WCn.rangeIterP (gf := 273) (lb := [pt bx, pt bn]) (N := (ofT d (gt ls 0)).length) (arg := fun k => entV (gt (ofT d (gt ls 0)) k)) [] [(b6, .cells (List.toArray (entC (⟨(gt ls 0), kd, (gt ls 1)⟩ : Ent))) 46 (0, 0))] rfl Tryz.func225 (fun w' _ _ => of_iter x d m s t l b xb (gt ls 0) bx bn D2 hxD2 hd hbx hbn w') rfl Tryz.call273 rfl (fun k _ h => h = [(b6, .cells (List.toArray (entC (⟨(gt ls 0), kd, (gt ls 1)⟩ : Ent))) 46 (0, 0))] ∧ ∀ j, j < k → ¬ (gt (ofT d (gt ls 0)) j).kind = (⟨(gt ls 0), kd, (gt ls 1)⟩ : Ent).kind) (fun ch _ h => ch = stopW 5 ∧ h = [(b6, .cells (List.toArray (entC (⟨(gt ls 0), kd, (gt ls 1)⟩ : Ent))) 46 (0, 0))] ∧ bookedB d.book (gt ls 0) (⟨(gt ls 0), kd, (gt ls 1)⟩ : Ent).kind = true) (fun _ _ _ _ _ h => h) ⟨rfl, by intro j hj; omega⟩ ?_ ?_ ?_
    · rintro rec l2 Dn k D5 _ w1 hrec hk ⟨rfl, hd5⟩ hX5 hsz
      unfold RoundGP
      refine g [[1,33,6]] ?_
      refine WLF.so (zn rfl) (SO.alloc ZvF.h rfl) rfl (zw fun b7 hb7 => ?_)
      refine g [[2]] ?_
      refine WP.iterBegin 1 rfl hrec (g [[1],[6,7,6]] ?_)
      refine WLF.part 38 rfl (fun g38 => ?_) (fun g38 => ?_)
      · try simp only [zq] at g38
        refine WLF.cl rfl (fun w hI => mustW_ok _ _) (g [[2]] ?_)
        exact WP.iterOnP hrec (pre := [(Dn, _)]) (h1 := [(b6, .cells (List.toArray (entC (⟨(gt ls 0), kd, (gt ls 1)⟩ : Ent))) 46 (0, 0))]) zU1 zU2 (DExt.refl _ _) ⟨rfl, ext_roundN hd5 g38⟩
      try simp only [zq] at g38
      refine WLF.no (zn rfl) (SO.fail (Enters.func CaF.h rfl) (fun w hI => mustW_no _ _) (g [[1]] ?_))
      exact WP.iterPanic (pre := [(Dn, _)]) (h1 := [(b6, .cells (List.toArray (entC (⟨(gt ls 0), kd, (gt ls 1)⟩ : Ent))) 46 (0, 0))]) rfl zU1 zU2 (DExt.refl _ _) ⟨rfl, rfl, booked_y hk (Decidable.not_not.1 g38)⟩
    · rintro Dn D6 _ hsz hX6 ⟨rfl, hd6⟩
      refine g [[4]] ?_
      have hbf : bookedB d.book (gt ls 0) (⟨(gt ls 0), kd, (gt ls 1)⟩ : Ent).kind = false := booked_n hd6
      have hxD6 := hX6.old _ _ hxD2
      refine WC.thawS hxD6 (.inl (by simp)) ?_
      refine WC.hpPerm [(Dn, _), (xb, _), (b6, .cells (List.toArray (entC (⟨(gt ls 0), kd, (gt ls 1)⟩ : Ent))) 46 (0, 0))] (List.Perm.swap _ _ _) ?_
      have hXa := DExt.lent hxn (hX2.trans hX6 (Nat.le_refl _))
      have hLa := hL0.ext hXa
      have hda := hd0.ext hXa
      clear hL hd
      have hL := hLa
      have hd := hda
      clear hLa hda
      generalize D6.minus xb = D7 at hXa hd hL ⊢
      refine g [[0,0,6]] ?_
      refine WC.drawD [_] (pz [1,3,5,7,9,13,10,14,17,19,21,22]) zk zk zX (fun _ hI => hI.tail.tail) (g [[6]] ?_)
      refine WA.so rfl (SO.ofYd (Yd.l1 rfl (Rd.own (k := 1) rfl rfl))) rfl ?_
      rintro _ _ _ ⟨rfl, rfl, rfl⟩
      refine ⟨fun _ hI => hI.tail.tail, ?_⟩
      refine WA.so rfl (SO.makes (Enters.func Tryz.call227 rfl) (fun w1 hI => grownEnt_g d.book (⟨(gt ls 0), kd, (gt ls 1)⟩ : Ent) b.a _ b.c _ hd.book hd.len.2.2 w1 hI.imm)) rfl ?_
      rintro _ D8 _ ⟨hX8, ⟨a2, c2, rfl, hS2, hc2⟩, rfl⟩
      replace hL := hL.ext hX8
      have hd8 := hd.ext hX8
      refine ⟨fun _ hI => hI.tail.tail.shrink hX8.old, ?_⟩
      refine g [[3]] ?_
      refine WA.so rfl (SO.store 1 rfl SzF.h rfl rfl rfl rfl (zqb rfl) (oneB_spec rfl)) rfl ?_
      rintro _ _ _ ⟨rfl, rfl, rfl⟩
      refine ⟨fun _ hI => hI.tail.tail.shrink hX8.old, ?_⟩
      refine g [[4],[8,0]] ?_
      refine WL.know 57 (it ((d.book.length : Int) + 1)) rfl (by rw [List.length_append]; rfl) (g [[1]] ?_)
      refine WL.know 58 (it (d.book.length : Int)) rfl (by rw [show (d.book.length : Int) + 1 - 1 = d.book.length by omega]) (g [[1]] ?_)
      refine WL.so (SO.buildSlice1 UnF.h SzF.h ZvF.h rfl rfl rfl (vs := [_, _]) rfl rfl rfl) rfl ?_
      rintro _ _ _ ⟨b60, hb60, rfl, rfl, rfl⟩
      refine WL.freezeN 0 b60 (.cells (List.toArray ([Pt.s paidS, Pt.n (d.book.length : Int)].flatMap ptI ++ [])) 20 (0, 0)) rfl rfl hb60 (fun D9 hX9 h60 => ?_)
      refine WL.cl rfl (fun w hI => told_g [Pt.s paidS, Pt.n (d.book.length : Int)] (some ⟨b60, 0, none⟩) 2 2 D9 (hL.ext hX9) (SlL.ofBlock ptI_len h60) (by decide) (by intro p hp; simp only [List.mem_cons, List.not_mem_nil, or_false] at hp; rcases hp with rfl | rfl; exact (show List.length _ ≤ 100 by decide); exact (by unfold ptB; unfold i64B; omega)) _ hI.imm) (g [[5]] ?_)
      refine WP.retMs [Dn] [(xb, _)] [_] [_] rfl rfl zU1 zU2 rfl zV (fun w1 hI => ⟨D9, _, (hXa.trans hX8 (Nat.le_refl _)).trans hX9 (Nat.le_refl _), hI, .inl ⟨_, rfl, by rw [book_cases, if_neg (by dsimp only; omega), if_neg (by rw [hbf]; simp)]; exact ⟨rfl, by rw [← told_rep _ [_]]; rfl, t, l, ⟨a2, d.book.length + 1, c2⟩, womO_b, book_R (hd8.ext hX9) (hS2.ext hX9) hc2 (by have := ent_len hdo; omega)⟩⟩⟩)
    rintro Dn ch D6 _ hsz hX6 ⟨rfl, rfl, hbt⟩
    refine g [[2]] ?_
    first
      | exact WP.panicMs [] [] rfl zU1 zU2 (fun w1 hI => ⟨_, _, DExt.lent hxn (DExt.refl _ _), hI.thawS hxD (.inl (by simp)), .inr ⟨_, rfl, by rw [book_cases, if_pos (by dsimp only; omega)]; exact ⟨by simp [errD], rfl, rfl⟩⟩⟩)
      | exact WP.panicMs [Dn] [] rfl zU1 zU2 (fun w1 hI => ⟨_, _, DExt.lent hxn (hX2.trans hX6 (Nat.le_refl _)), hI.thawS (hX6.old _ _ hxD2) (.inl (by simp)), .inr ⟨_, rfl, by rw [book_cases, if_neg (by dsimp only; omega), if_pos hbt]; exact ⟨by simp [errD], rfl, rfl⟩⟩⟩)
  try simp only [zq] at g17
  refine WL.nf rfl (fun w hI => mustW_no _ _) (g [[1]] ?_)
  first
    | exact WP.panicMs [] [] rfl zU1 zU2 (fun w1 hI => ⟨_, _, DExt.lent hxn (DExt.refl _ _), hI.thawS hxD (.inl (by simp)), .inr ⟨_, rfl, by rw [book_cases, if_pos (by dsimp only; omega)]; exact ⟨by simp [errD], rfl, rfl⟩⟩⟩)
    | exact WP.panicMs [Dn] [] rfl zU1 zU2 (fun w1 hI => ⟨_, _, DExt.lent hxn (hX2.trans hX6 (Nat.le_refl _)), hI.thawS (hX6.old _ _ hxD2) (.inl (by simp)), .inr ⟨_, rfl, by rw [book_cases, if_neg (by dsimp only; omega), if_pos hbt]; exact ⟨by simp [errD], rfl, rfl⟩⟩⟩)
end Go.Proofs.YtejgofaeafphjaaGreatDoor
