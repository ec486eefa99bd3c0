/- Whether an engine is safe. No condition. -/
import Derived.Test.YtahlghlpdcfbgaaPv
namespace Go.Proofs.Ytahlghlpdcfbgaa.Ev
open Go
set_option linter.unusedVariables false
set_option linter.unusedSimpArgs false
set_option maxHeartbeats 1000000

def xorAt (a : Arr) (s : Int) : Int × Bool := bif allN a.Mems.length (okAt a s) then (xN (sumX (wAt a s) a.Mems.length), true) else (0, false)
def even (a : Arr) : Bool := allN a.G.S.toNat fun s => !((xorAt a s).2 && ((xorAt a s).1 != 0))
def spoilt (m : Dsk) : Bool := m.Bad.any fun x => decide (x ≥ 6)
def anySpoilt (a : Arr) : Bool := a.Mems.any spoilt
theorem bad_len (m : Dsk) (h : m.w ≤ Big) : m.Bad.length ≤ 4294967296 := by unfold Dsk.w Big at h; omega
def safe (x : Eng) : Int := bif !engOk x then 1 else bif !apart x then 2 else bif !x.A.Down && !even x.A then 3 else bif !x.A.Down && (!x.A.Broken && (!anySpoilt x.A && !whole x)) then 4 else 0
theorem engOk_geo {x : Eng} (h : engOk x = true) : geoOk x.A.G = true := by
  unfold engOk at h
  simp only [Bool.and_eq_true] at h
  exact (arr_t h.2.1).1
end Go.Proofs.Ytahlghlpdcfbgaa.Ev
