import Derived.Test.YtpnbkdlejfmbeaaGreatYZ7
set_option linter.unusedSimpArgs false
set_option linter.unusedVariables false
set_option linter.all false
set_option maxRecDepth 100000
set_option maxHeartbeats 1000000
namespace Go.Proofs.YtpnbkdlejfmbeaaGreat
open Go.W Go.Ti

theorem missL_g (X : Till) (a1 : Option Addr) (n1 c1 : Nat) (D : Imm) (w : World) (hS : SlL D 5 (X.tk.l.map tickC) a1 n1) (hH : Holds D w) (l : List Ent) (ab : Option Addr) (nb cb : Nat) (hL : SlL D 3 (l.map entC) ab nb) (m v : Nat) (hm : m < 256) (hv : v < 256) : Gives Tryz.prog 6 [.agg #[it X.tk.huts, .slice a1 n1 c1, it X.price, it X.fine, it X.wait], .slice ab nb cb, .int .u8 m, .int .u8 v] w (.bool true) := by
  rcases Nat.lt_or_ge 60 (max n1 nb) with h | h
  · exact miss_a X a1 n1 c1 D w hS hH l ab nb cb hL m v hm hv h
  · cases h1 : tillB X with
    | false => exact miss_b X a1 n1 c1 D w hS hH l ab nb cb hL m v hm hv h h1
    | true =>
      rcases Nat.lt_or_ge 20 nb with h3 | h3
      · exact miss_c X a1 n1 c1 D w hS hH l ab nb cb hL m v hm hv h h1 h3
      · cases h4 : l.all (entB X) with
        | false => exact miss_d X a1 n1 c1 D w hS hH l ab nb cb hL m v hm hv h h1 h3 h4
        | true =>
          rcases tks_e10 (tillB_num h1).1 with hW | hW
          · exact miss_g X a1 n1 c1 D w hS hH l ab nb cb hL m v hm hv h h1 h3 h4 hW
          · exact miss_e X a1 n1 c1 D w hS hH l ab nb cb hL m v hm hv h h1 h3 h4 hW

end Go.Proofs.YtpnbkdlejfmbeaaGreat
