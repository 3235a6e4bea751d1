import Derived.Test.YtpnbkdlejfmbeaaGreatYZ2i
set_option linter.unusedSimpArgs false
set_option linter.unusedVariables false
set_option linter.all false
set_option maxRecDepth 100000
set_option maxHeartbeats 1000000
namespace Go.Proofs.YtpnbkdlejfmbeaaGreat
open Go.W Go.Ti

theorem moreL_g (X : Till) (a1 : Option Addr) (n1 c1 : Nat) (D : Imm) (w : World) (hS : SlL D 5 (X.tk.l.map tickC) a1 n1) (hH : Holds D w) (l : List Ent) (ab : Option Addr) (nb cb : Nat) (hL : SlL D 3 (l.map entC) ab nb) (m b : Nat) (hm : m < 256) (hb : b < 256) : Gives Tryz.prog 7 [.agg #[it X.tk.huts, .slice a1 n1 c1, it X.price, it X.fine, it X.wait], .slice ab nb cb, .int .u8 m, .int .u8 b] w (.bool true) := by
  rcases Nat.lt_or_ge 60 (max n1 nb) with h | h
  · exact more_a X a1 n1 c1 D w hS hH l ab nb cb hL m b hm hb h
  · cases h1 : tillB X with
    | false => exact more_b X a1 n1 c1 D w hS hH l ab nb cb hL m b hm hb h h1
    | true =>
      rcases Nat.eq_zero_or_pos n1 with h2 | h2
      · exact more_c X a1 n1 c1 D w hS hH l ab nb cb hL m b hm hb h h1 h2
      · rcases Nat.lt_or_ge 20 nb with h3 | h3
        · exact more_d X a1 n1 c1 D w hS hH l ab nb cb hL m b hm hb h h1 h2 h3
        · cases h4 : l.all (entB X) with
          | false => exact more_e X a1 n1 c1 D w hS hH l ab nb cb hL m b hm hb h h1 h2 h3 h4
          | true =>
            have hn : n1 = X.tk.l.length := hS.len'
            have hv := (tillB_num h1).1
            have han : m % n1 < X.tk.l.length := by rw [← hn]; exact Nat.mod_lt _ h2
            rcases nar_E (w := decide (m % 2 = 1)) hv han with hE2 | hE2
            · exact more_i X a1 n1 c1 D w hS hH l ab nb cb hL m b hm hb h h1 h2 h3 h4 _ rfl (nar_e hv han hE2) hE2
            · rcases tks_e10 hv with hE | hE
              · exact more_h X a1 n1 c1 D w hS hH l ab nb cb hL m b hm hb h h1 h2 h3 h4 _ rfl hE hE2
              · exact more_g X a1 n1 c1 D w hS hH l ab nb cb hL m b hm hb h h1 h2 h3 h4 _ rfl hE hE2

end Go.Proofs.YtpnbkdlejfmbeaaGreat
