/- What the printed walks of this seat lean on beside the print's own words: what package variables hold ('Glob'), and '[]byte(s)' as one step. -/
import Derived.Test.YtpihpkphhkcdlaaGreatDoorProg
import Derived.Test.YtpihpkphhkcdlaaGreatDoorWWords
import Derived.Test.YtpihpkphhkcdlaaGreatDoorWm
import Derived.Lib.SlBytesConst
namespace Go.Proofs.YtpihpkphhkcdlaaGreatDoor.Ext
open Go.RowKit Go.Proofs.YtpihpkphhkcdlaaGreatDoorW.PrintWords

/-- []byte(s): the bytes as numbers. -/
def bytesConv.f (s : ByteArray) : Option (List Int) := if s.size ≤ 9223372036854775807 then some (bytesOf s) else none

theorem bytesConv_below (W : World) (e : TypeId) (s : ByteArray) : Below W.heap.size W (Lib.bytesWorld W e s) := bytes_below (Below.refl _ _) (Nat.le_refl _) e s

theorem size_append_ (a b : ByteArray) : (a ++ b).size = a.size + b.size := ByteArray.size_append
theorem size_mk_ (l : Array UInt8) : (⟨l⟩ : ByteArray).size = l.size := rfl
theorem size_norm {n : Nat} (h : n ≤ 9223372036854775807) : n < 9223372036854775808 := Nat.lt_succ_of_le h

/-- string(b) of a row that came in, or of a cut of it; the length as the walk has it. -/
theorem C_string0 {P : Program} {w : World} {src dst e : TypeId} {A : Option Addr} {n c : Nat} {xs : List Int} (hs : P.underlying src = some (.slice e)) (he : P.underlying e = some (.int .u8)) (hd : P.underlying dst = some .string)
    (h : (Kd.int .u8).C w A n xs) : ∀ m, m = n → (convert src dst (.slice A m c)).run P w = .ok (.string (strOfNums xs)) w := by
  rintro m rfl
  exact Kd.C_string hs he hd h
theorem C_stringN {P : Program} {w : World} {src dst e : TypeId} {A : Option Addr} {n c : Nat} {xs : List Int} (hs : P.underlying src = some (.slice e)) (he : P.underlying e = some (.int .u8)) (hd : P.underlying dst = some .string)
    (h : (Kd.int .u8).C w A n xs) : ∀ q m, m = n → (convert src dst (.slice A m c)).run P (w.drewN q) = .ok (.string (strOfNums xs)) (w.drewN q) := by
  rintro q m rfl
  exact Kd.C_string hs he hd (Kd.C_drewN h q)
/-- []byte("..") of a constant: its numbers. -/
def bytesLit.f (xs : List Int) : Option (List Int) := some xs
end Go.Proofs.YtpihpkphhkcdlaaGreatDoor.Ext
