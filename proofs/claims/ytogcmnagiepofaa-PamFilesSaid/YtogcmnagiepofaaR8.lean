/- Rasters: the head of a file, its bytes. -/
import Derived.Test.YtogcmnagiepofaaR5
import Derived.Test.YtogcmnagiepofaaR6
import Derived.Lib.ConvBytes
import Derived.Laws.AppendOwn
namespace Go.Proofs.Ytogcmnagiepofaa
set_option linter.unusedVariables false
open Go Go.RowKit

theorem Ext.bytes (w : World) (e : TypeId) (s : ByteArray) : Ext w (Lib.bytesWorld w e s) := by
  refine ⟨?_, ?_, ?_, ?_, fun k hk => Lib.bytesWorld_at_old w e s k hk⟩
  · unfold Lib.bytesWorld World.freeze; rw [if_neg (by decide)]; rfl
  · unfold Lib.bytesWorld World.freeze; rw [if_neg (by decide)]; rfl
  · unfold Lib.bytesWorld World.freeze; rw [if_neg (by decide)]; rfl
  · rw [Lib.bytesWorld_size]; omega
theorem Sl.bytes (w : World) (e : TypeId) (s : ByteArray) (h : s.size ≤ 1099511627776) : Sl (Lib.bytesWorld w e s) (some ⟨w.heap.size, 0, none⟩) s.size (grownCap w s.size 0 e) (ints .u8 (natsOf s)) := by
  refine ⟨by rw [ints_len, natsOf_len], grownCap_ge _ _ _ _, grownCap_le_maxLen _ _ _ _ (by unfold maxLen; omega), fun h0 => ⟨_, 0, rfl, fun i u hu => ?_⟩⟩
  have hi : i < (natsOf s).length := by
    have := (List.getElem?_eq_some_iff.1 hu).1
    rwa [ints_len] at this
  rw [ints_get .u8 _ i hi] at hu
  rw [← hu]
  have hi2 : i < s.size := by rwa [natsOf_len] at hi
  have := Lib.bytesWorld_cell w e s i hi2
  rw [Nat.zero_add, this]
  congr 2
  have hs : i < s.data.toList.length := hi2
  rw [List.getD_eq_getElem?_getD, List.getElem?_eq_getElem hs]
  simp [natsOf]
/-- The head of a file. -/
def headS (x y : Int) : ByteArray := (((⟨#[80, 55, 10, 87, 73, 68, 84, 72, 32]⟩ ++ textZ x) ++ ⟨#[10, 72, 69, 73, 71, 72, 84, 32]⟩) ++ textZ y) ++ ⟨#[10, 68, 69, 80, 84, 72, 32, 52, 10, 77, 65, 88, 86, 65, 76, 32, 50, 53, 53, 10, 84, 85, 80, 76, 84, 89, 80, 69, 32, 82, 71, 66, 95, 65, 76, 80, 72, 65, 10, 69, 78, 68, 72, 68, 82, 10]⟩
theorem textZ_small {x : Int} (h1 : -9223372036854775808 ≤ x) (h2 : x ≤ 9223372036854775807) : (textZ x).size ≤ 21 := by
  have := decD_len (m := x.natAbs) (by omega)
  unfold textZ
  split
  · rw [ByteArray.size_append]; unfold decS; rw [decB_size]; simp [ByteArray.size]; omega
  · unfold decS; rw [decB_size]; omega
/-- The call hands back bytes. -/
def RetBy (w : World) (l : List Nat) (e : Ending) (w' : World) : Prop := ∃ a n c, e = .returned (.slice a n c) ∧ Sl w' a n c (ints .u8 l) ∧ Ext w w'

set_option maxRecDepth 100000 in
set_option maxHeartbeats 4000000 in
theorem p_header (x y : Int) (w : World) (h1 : -9223372036854775808 ≤ x) (h2 : x ≤ 9223372036854775807) (h3 : -9223372036854775808 ≤ y) (h4 : y ≤ 9223372036854775807) :
    Calls Try.prog 110 #[.int .i64 x, .int .i64 y] w (RetBy w (natsOf (headS x y))) := by
  have hcv : ∀ (u : World) (s : ByteArray), (convert 9 86 (.string s)).run Try.prog u = .ok (.slice (some ⟨u.heap.size, 0, none⟩) s.size (grownCap u s.size 0 5)) (Lib.bytesWorld u 5 s) :=
    fun u s => Lib.run_convert_string_bytes u 9 86 5 s Try.underlying9 Try.underlying86 Try.underlying5
  have hsx := textZ_small h1 h2
  have hsy := textZ_small h3 h4
  have HX := hidP (fun u => f_Num_any x u h1 h2)
  have HY := hidP (fun u => f_Num_any y u h3 h4)
  have HS : Hid (headS x y = (((⟨#[80, 55, 10, 87, 73, 68, 84, 72, 32]⟩ ++ textZ x) ++ ⟨#[10, 72, 69, 73, 71, 72, 84, 32]⟩) ++ textZ y) ++ ⟨#[10, 68, 69, 80, 84, 72, 32, 52, 10, 77, 65, 88, 86, 65, 76, 32, 50, 53, 53, 10, 84, 85, 80, 76, 84, 89, 80, 69, 32, 82, 71, 66, 95, 65, 76, 80, 72, 65, 10, 69, 78, 68, 72, 68, 82, 10]⟩) := hidP rfl
  clear h1 h2 h3 h4
  generalize headS x y = hs at *
  generalize textZ x = tx at *
  generalize textZ y = ty at *
  go_enter Try.func110, Try.ntmps110
  go_wp2_with fail
  refine (HX.out _).mono ?_
  rintro e u1 ⟨rfl, HE⟩
  go_wp2_with fail
  refine (HY.out _).mono ?_
  rintro e u2 ⟨rfl, hx⟩
  replace HE := HE.trans hx
  go_wp2_with fail
  go_ret
  rw [HS.out]
  have hz : ((((⟨#[80, 55, 10, 87, 73, 68, 84, 72, 32]⟩ ++ tx) ++ ⟨#[10, 72, 69, 73, 71, 72, 84, 32]⟩) ++ ty) ++ ⟨#[10, 68, 69, 80, 84, 72, 32, 52, 10, 77, 65, 88, 86, 65, 76, 32, 50, 53, 53, 10, 84, 85, 80, 76, 84, 89, 80, 69, 32, 82, 71, 66, 95, 65, 76, 80, 72, 65, 10, 69, 78, 68, 72, 68, 82, 10]⟩).size = 9 + tx.size + 8 + ty.size + 46 := by simp only [ByteArray.size_append]; rfl
  have S := Sl.bytes u2 5 _ (by rw [hz]; omega : ((((⟨#[80, 55, 10, 87, 73, 68, 84, 72, 32]⟩ ++ tx) ++ ⟨#[10, 72, 69, 73, 71, 72, 84, 32]⟩) ++ ty) ++ ⟨#[10, 68, 69, 80, 84, 72, 32, 52, 10, 77, 65, 88, 86, 65, 76, 32, 50, 53, 53, 10, 84, 85, 80, 76, 84, 89, 80, 69, 32, 82, 71, 66, 95, 65, 76, 80, 72, 65, 10, 69, 78, 68, 72, 68, 82, 10]⟩).size ≤ 1099511627776)
  rw [hz] at S
  exact ⟨_, _, _, rfl, S, HE.trans (Ext.bytes _ _ _)⟩

end Go.Proofs.Ytogcmnagiepofaa
