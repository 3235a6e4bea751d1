import Derived.Test.YtaebnllfmkcpgaaGreatDoorYFG
import Derived.Test.YtaebnllfmkcpgaaGreatDoorYFM
set_option linter.unusedSimpArgs false
set_option linter.unusedVariables false
set_option linter.all false
set_option maxRecDepth 100000
set_option maxHeartbeats 1000000
namespace Go.Proofs.YtaebnllfmkcpgaaGreatDoor
open Go.W Go.Bk

def rdE (k : Nat) (t : Bs) : Int := if k = 0 then (readSurf t).2 else if k = 1 then (readFlag t).2 else (readBoats t).2
def fnsL : List Nat := [43, 44, 45]
def fnC (n : Nat) : List Value := [.func (.func n) #[] #[]]
def tsL (s : Surf) (f : Flag) (b : Boats) : List Bs := [(wrO surfB putSurf s).1, (wrO flagB putFlag f).1, (wrO boatsB putBoats b).1]
def esL (s : Surf) (f : Flag) (b : Boats) : List Int := [(wrO surfB putSurf s).2, (wrO flagB putFlag f).2, (wrO boatsB putBoats b).2]
def badsL (t : Bs) (y : UInt8) : List Bs := [t ++ [y], [y] ++ t, t.take (t.length - 1), t ++ [48, 49, 10], t ++ [10]]
theorem kind_bads {X : Type} {is : X → Bool} {put : X → Bs} {L : X → List Bs} {c d : UInt8} (K : Kind is put L c d) {x : X} (hx : is x = true) (b : UInt8) (j : Nat) (hj : j < 5) (y : X) (hy : is y = true) : put y ≠ gt (badsL (put x) b) j := by
  match j, hj with
  | 0, _ => exact K.noEnd hx hy b
  | 1, _ => exact K.noStart x y b
  | 2, _ => show put y ≠ (put x).take ((put x).length - 1); rw [← List.dropLast_eq_take]; exact K.noDrop hx hy
  | 3, _ => exact K.noLine hx hy (l := [48, 49]) (by simp [Bk.flat]) (fun e r h => by cases h; decide)
  | 4, _ => exact K.noEnd hx hy 10
theorem lines_at {X : Type} {z : X} {take : X → Nat → Bs → Option X} {is : X → Bool} {put : X → Bs} {L : X → List Bs} {c d : UInt8} (K : Kind is put L c d) {x : X} (hx : is x = true) (b : UInt8) (j : Nat) (hj : j < 5) (hl : (gt (badsL (put x) b) j).length ≤ 1200) : (readX z take is put (gt (badsL (put x) b) j)).2 = 8 := by
  rw [Bk.readX_bad (fun y hy => kind_bads K hx b j hj y hy), if_neg (by omega)]
theorem other_at {X Y : Type} {z : X} {take : X → Nat → Bs → Option X} {is : X → Bool} {put : X → Bs} {L : X → List Bs} {c d : UInt8} (K : Kind is put L c d) {is2 : Y → Bool} {put2 : Y → Bs} {L2 : Y → List Bs} {c2 d2 : UInt8} (K2 : Kind is2 put2 L2 c2 d2) (h : c ≠ c2) (y : Y) : ¬ (readX z take is put (put2 y)).2 = 0 := by
  rw [Bk.readX_bad (fun x _ => K.other K2 h x y)]
  split <;> simp
theorem lines_facts (s : Surf) (f : Flag) (b : Boats) (y : UInt8) (k : Nat) (hk : k < 3) (he : gt (esL s f b) k = 0) : (∃ p, gt (tsL s f b) k = p ++ [10]) ∧ (gt (tsL s f b) k).length ≤ 1200 ∧ (∀ j, j < 5 → (gt (badsL (gt (tsL s f b) k) y) j).length ≤ 1200 → rdE k (gt (badsL (gt (tsL s f b) k) y) j) = 8) ∧ (∀ i, i < 3 → (rdE i (gt (tsL s f b) k) = 0 ↔ i = k)) := by
  match k, hk with
  | 0, _ =>
    have hb : surfB s = true := wr_ok.1 (show (wrO surfB putSurf s).2 = 0 from he)
    have e : gt (tsL s f b) 0 = putSurf s := by show (wrO surfB putSurf s).1 = _; rw [wrO_yes hb]
    rw [e]
    refine ⟨kindSurf.last s, surf_len (surfB_iff.1 hb), fun j hj hl => lines_at kindSurf hb y j hj hl, fun i hi => ?_⟩
    match i, hi with
    | 0, _ => exact ⟨fun _ => rfl, fun _ => congrArg Prod.snd (readSurf_wr hb)⟩
    | 1, _ => exact ⟨fun h => absurd h (other_at kindFlag kindSurf (by decide) s), fun h => nomatch h⟩
    | 2, _ => exact ⟨fun h => absurd h (other_at kindBoats kindSurf (by decide) s), fun h => nomatch h⟩
  | 1, _ =>
    have hb : flagB f = true := wr_ok.1 (show (wrO flagB putFlag f).2 = 0 from he)
    have e : gt (tsL s f b) 1 = putFlag f := by show (wrO flagB putFlag f).1 = _; rw [wrO_yes hb]
    rw [e]
    refine ⟨kindFlag.last f, flag_len (flagB_iff.1 hb), fun j hj hl => lines_at kindFlag hb y j hj hl, fun i hi => ?_⟩
    match i, hi with
    | 0, _ => exact ⟨fun h => absurd h (other_at kindSurf kindFlag (by decide) f), fun h => nomatch h⟩
    | 1, _ => exact ⟨fun _ => rfl, fun _ => congrArg Prod.snd (readFlag_wr hb)⟩
    | 2, _ => exact ⟨fun h => absurd h (other_at kindBoats kindFlag (by decide) f), fun h => nomatch h⟩
  | 2, _ =>
    have hb : boatsB b = true := wr_ok.1 (show (wrO boatsB putBoats b).2 = 0 from he)
    have e : gt (tsL s f b) 2 = putBoats b := by show (wrO boatsB putBoats b).1 = _; rw [wrO_yes hb]
    rw [e]
    refine ⟨kindBoats.last b, boats_len (boatsB_iff.1 hb), fun j hj hl => lines_at kindBoats hb y j hj hl, fun i hi => ?_⟩
    match i, hi with
    | 0, _ => exact ⟨fun h => absurd h (other_at kindSurf kindBoats (by decide) b), fun h => nomatch h⟩
    | 1, _ => exact ⟨fun h => absurd h (other_at kindFlag kindBoats (by decide) b), fun h => nomatch h⟩
    | 2, _ => exact ⟨fun _ => rfl, fun _ => congrArg Prod.snd (readBoats_wr hb)⟩
theorem spo : ∀ i : Fin 9, mendP (sealS.set i.val 9) = (sealS, 0) := by decide +kernel

theorem clos1_g (s : Bs) (hs : s.length ≤ 2 ^ 20) (D : Imm) (hL : LibD D) (w : World) (hH : Holds D w) : Gives Tryz.prog 43 [st s] w (it (readSurf s).2) := by
  unfold Gives
  refine enter Tryz.func43 rfl 11 Tryz.ntmps43 (zqb rfl) (Inv.start hH) ?_
  refine WC.seq (WC.ofFr [(0, _)] ⟨rfl, trivial⟩ (WC.region ?_))
  refine zya rfl rfl ?_
  refine WL.nil (WP.thenC (WC.seq (WC.ofFr [(2, _), (0, _)] ⟨rfl, rfl, trivial⟩ (WC.region ?_))))
  refine zym rfl rfl ?_
  refine WL.so (SO.makes (Enters.func Tryz.call34 rfl) (fun w1 hI => ReadSurf_g s hs D hL w1 hI.imm)) rfl ?_
  rintro _ D1 _ ⟨hX1, ⟨x1, m1, e1, hx1, rfl, hR1⟩, rfl⟩
  refine zym rfl rfl ?_
  refine WL.yd (Yd.extract rfl rfl) rfl ?_
  refine WL.yd (Yd.extract rfl rfl) rfl ?_
  refine WL.so (SO.alloc Tryz.zeroValue25 rfl) rfl ?_
  rintro _ _ _ ⟨b3, hb3, rfl, rfl, rfl⟩
  refine WL.so (SO.store 0 rfl Tryz.sizeOf25 rfl rfl rfl rfl (zqb rfl) (oneB_spec rfl)) rfl ?_
  rintro _ _ _ ⟨rfl, rfl, rfl⟩
  refine zya rfl rfl ?_
  refine WL.nil (WP.thenC (WC.seq (WC.ofFr [(4, _), (2, _)] ⟨rfl, rfl, trivial⟩ (WC.region ?_))))
  refine zym rfl rfl ?_
  refine zya rfl rfl ?_
  refine WL.nil (WP.thenC (WC.ret ?_))
  refine WP.ret1 rfl rfl Tryz.results43 (RV.tmp rfl) (fun w hI => ⟨by rw [hx1]; rfl, hI.keep⟩)

theorem clos2_g (s : Bs) (hs : s.length ≤ 2 ^ 20) (D : Imm) (hL : LibD D) (w : World) (hH : Holds D w) : Gives Tryz.prog 44 [st s] w (it (readFlag s).2) := by
  unfold Gives
  refine enter Tryz.func44 rfl 11 Tryz.ntmps44 (zqb rfl) (Inv.start hH) ?_
  refine WC.seq (WC.ofFr [(0, _)] ⟨rfl, trivial⟩ (WC.region ?_))
  refine zya rfl rfl ?_
  refine WL.nil (WP.thenC (WC.seq (WC.ofFr [(2, _), (0, _)] ⟨rfl, rfl, trivial⟩ (WC.region ?_))))
  refine zym rfl rfl ?_
  refine WL.so (SO.makes (Enters.func Tryz.call36 rfl) (fun w1 hI => ReadFlag_g s hs D hL w1 hI.imm)) rfl ?_
  rintro _ D1 _ ⟨hX1, ⟨x1, m1, e1, hx1, rfl, hR1⟩, rfl⟩
  refine zym rfl rfl ?_
  refine WL.yd (Yd.extract rfl rfl) rfl ?_
  refine WL.yd (Yd.extract rfl rfl) rfl ?_
  refine WL.so (SO.alloc Tryz.zeroValue29 rfl) rfl ?_
  rintro _ _ _ ⟨b3, hb3, rfl, rfl, rfl⟩
  refine WL.so (SO.store 0 rfl Tryz.sizeOf29 rfl rfl rfl rfl (zqb rfl) (oneB_spec rfl)) rfl ?_
  rintro _ _ _ ⟨rfl, rfl, rfl⟩
  refine zya rfl rfl ?_
  refine WL.nil (WP.thenC (WC.seq (WC.ofFr [(4, _), (2, _)] ⟨rfl, rfl, trivial⟩ (WC.region ?_))))
  refine zym rfl rfl ?_
  refine zya rfl rfl ?_
  refine WL.nil (WP.thenC (WC.ret ?_))
  refine WP.ret1 rfl rfl Tryz.results44 (RV.tmp rfl) (fun w hI => ⟨by rw [hx1]; rfl, hI.keep⟩)

theorem clos3_g (s : Bs) (hs : s.length ≤ 2 ^ 20) (D : Imm) (hL : LibD D) (w : World) (hH : Holds D w) : Gives Tryz.prog 45 [st s] w (it (readBoats s).2) := by
  unfold Gives
  refine enter Tryz.func45 rfl 11 Tryz.ntmps45 (zqb rfl) (Inv.start hH) ?_
  refine WC.seq (WC.ofFr [(0, _)] ⟨rfl, trivial⟩ (WC.region ?_))
  refine zya rfl rfl ?_
  refine WL.nil (WP.thenC (WC.seq (WC.ofFr [(2, _), (0, _)] ⟨rfl, rfl, trivial⟩ (WC.region ?_))))
  refine zym rfl rfl ?_
  refine WL.so (SO.makes (Enters.func Tryz.call38 rfl) (fun w1 hI => ReadBoats_g s hs D hL w1 hI.imm)) rfl ?_
  rintro _ D1 _ ⟨hX1, ⟨x1, m1, e1, hx1, rfl, hR1⟩, rfl⟩
  refine zym rfl rfl ?_
  refine WL.yd (Yd.extract rfl rfl) rfl ?_
  refine WL.yd (Yd.extract rfl rfl) rfl ?_
  refine WL.so (SO.alloc Tryz.zeroValue32 rfl) rfl ?_
  rintro _ _ _ ⟨b3, hb3, rfl, rfl, rfl⟩
  refine WL.so (SO.store 0 rfl Tryz.sizeOf32 rfl rfl rfl rfl (zqb rfl) (oneB_spec rfl)) rfl ?_
  rintro _ _ _ ⟨rfl, rfl, rfl⟩
  refine zya rfl rfl ?_
  refine WL.nil (WP.thenC (WC.seq (WC.ofFr [(4, _), (2, _)] ⟨rfl, rfl, trivial⟩ (WC.region ?_))))
  refine zym rfl rfl ?_
  refine zya rfl rfl ?_
  refine WL.nil (WP.thenC (WC.ret ?_))
  refine WP.ret1 rfl rfl Tryz.results45 (RV.tmp rfl) (fun w hI => ⟨by rw [hx1]; rfl, hI.keep⟩)

theorem clos_call (k : Nat) (hk : k < 3) : ∀ args w, (callFunc (gt fnsL k) args).run Tryz.prog w = .ok (.enter (gt fnsL k) args) w := by
  match k, hk with
  | 0, _ => exact Tryz.call43
  | 1, _ => exact Tryz.call44
  | 2, _ => exact Tryz.call45
theorem closK_g (k : Nat) (hk : k < 3) (s : Bs) (hs : s.length ≤ 2 ^ 20) (D : Imm) (hL : LibD D) (w : World) (hH : Holds D w) : Gives Tryz.prog (gt fnsL k) [st s] w (it (rdE k s)) := by
  match k, hk with
  | 0, _ => exact clos1_g s hs D hL w hH
  | 1, _ => exact clos2_g s hs D hL w hH
  | 2, _ => exact clos3_g s hs D hL w hH

end Go.Proofs.YtaebnllfmkcpgaaGreatDoor
