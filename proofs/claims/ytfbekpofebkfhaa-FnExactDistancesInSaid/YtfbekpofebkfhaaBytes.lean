/- A string's bytes laid as a row, read and written in place: what a walk needs of them. -/

import Derived.Test.YtfbekpofebkfhaaWMore
import Derived.Sort.WalkB12
import Derived.Lib.SlicesMore
import Derived.Lib.OwnBridge
namespace Go.Proofs.Ytfbekpofebkfhaa.Bytes
open Go.RowKit Go.Sort Go.Proofs.YtfbekpofebkfhaaW.PrintWords
abbrev e8 : Int → Value := fun x => Value.int .u8 x
theorem holds_bytes (w : World) (e : TypeId) (s : ByteArray) : Holds e8 (Lib.bytesWorld w e s) w.heap.size 0 (bytesOf s).toArray := by
  intro j hj
  have hj' : j < s.size := by simpa [bytesOf_length] using hj
  constructor
  · rw [Nat.zero_add, Lib.bytesWorld_cell w e s j hj']
    have h' : j < s.data.toList.length := by rw [data_length]; exact hj'
    have h2 : j < (bytesOf s).length := by rw [bytesOf_length]; exact hj'
    simp [bytesOf, List.getD_eq_getElem?_getD, List.getElem?_eq_getElem h']
  · have hsz : s.size ≤ (Lib.bytesCells w e s).size := by simp [Lib.bytesCells]
    simp only [World.frozen?, Lib.bytesWorld_at_new, Nat.zero_add]
    simp
    omega
/-- A row of bytes becomes a string. -/
theorem to_string {P : Program} {w : World} {b : Nat} {d : Array Int} (src dst e : TypeId) (hs : P.underlying src = some (.slice e)) (he : P.underlying e = some (.int .u8)) (hd : P.underlying dst = some .string) (h : Holds e8 w b 0 d) (n cap : Nat) (hn : d.size = n) :
    (convert src dst (.slice (some ⟨b, 0, none⟩) n cap)).run P w = .ok (.string (strOfNums d.toList)) w := by
  refine run_convert_bytes_arg w src e hs he b 0 n cap d.toList (by simpa using hn) (fun i hi => ?_) dst hd
  have hi' : i < d.size := by omega
  rw [(h i hi').1]
  simp [getElem!_pos, hi', List.getD_eq_getElem?_getD]
end Go.Proofs.Ytfbekpofebkfhaa.Bytes
