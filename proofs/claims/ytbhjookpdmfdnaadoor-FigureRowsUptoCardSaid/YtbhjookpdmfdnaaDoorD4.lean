/- The law of bytes in figures: its walk. -/
import Derived.Test.YtbhjookpdmfdnaaDoorD2
import Derived.Test.YtbhjookpdmfdnaaDoorD3
namespace Go.Proofs.YtbhjookpdmfdnaaDoor
set_option linter.unusedVariables false
open Go Go.RowKit

def ucode (r : Option (List Nat)) : Nat := match r with | some _ => 0 | none => 3
theorem UnhexR.flat {w w' : World} {r : Option (List Nat)} {e : Ending} (h : UnhexR w r e w') :
    ∃ a n cap, e = .returned (.tuple #[.slice a n cap, .int .i64 ((ucode r : Nat) : Int)]) ∧ Sl w' a n cap (ints .u8 (r.getD [])) ∧ Ext w w' := by
  cases r with
  | none => obtain ⟨rfl, he⟩ := h; exact ⟨none, 0, 0, rfl, Sl.nil _, he⟩
  | some m => exact h

/-- The table of figures is there. -/
def Tab (w : World) : Prop := ∀ i, i ≤ 15 → w.cell? ⟨0, i, none⟩ = some (.int .u8 ((fig i : Nat) : Int))
theorem Tab.ext {w u : World} (h : Tab w) (he : Ext w u) : Tab u := fun i hi => he.cell' (h i hi)

set_option maxRecDepth 100000 in
set_option maxHeartbeats 1000000 in
theorem f_lives_any (w : World) (hF : Tab w) : Calls Tryd.prog 11 #[] w fun e w' => e = .returned (.bool true) ∧ Ext w w' := by
  have hN : natsOf ⟨#[45, 49, 50]⟩ = [45, 49, 50] := rfl
  have hR : readL [45, 49, 50] (-20) 20 = (-12, 0) := by decide
  have hH : bytesOf (hexL [0, 171]) = ⟨#[48, 48, 97, 98]⟩ := by decide
  have HN := hidP hN; have HR := hidP hR; have HH := hidP hH; clear hN hR hH
  have HF := hidP hF; clear hF
  go_enter Tryd.func11, Tryd.ntmps11
  go_wp2_with fail
  refine (f_Read_any ⟨#[45, 49, 50]⟩ (-20) 20 _ (by decide)).mono ?_
  rw [HN.out, HR.out]
  rintro e w1 ⟨rfl, he1⟩
  go_wp2_with fail
  refine (f_Hex_any _ 2 2 [0, 171] _ (Sl.lit w1 5 #[.int .u8 0, .int .u8 171] 2 rfl (by omega)) (by intro x hx; simp at hx; omega) (by omega) ?_).mono ?_
  · exact Tab.ext (HF.out) (he1.trans ((Ext.refl _).alloc _))
  rw [HH.out]
  rintro e w2 ⟨rfl, he2⟩
  go_wp2_with fail
  go_ret
  exact ⟨rfl, he1.trans (((Ext.refl _).alloc _).trans he2)⟩

set_option maxRecDepth 100000 in
set_option maxHeartbeats 1000000 in
theorem figureBytes_any (a : Option Addr) (n cap : Nat) (l : List Nat) (s : ByteArray) (w : World) (hs : Sl w a n cap (ints .u8 l)) (hl : ∀ x ∈ l, x ≤ 255) (hn : n ≤ 1048576) (hsz : s.size ≤ 1048576) (hF : Tab w) :
    Calls Tryd.prog 4 #[.slice a n cap, .string s] w fun e w' => e = .returned (.bool true) ∧ Ext w w' := by
  have hlen := hs.int_len
  have hUH : unhexL (natsOf (bytesOf (hexL l))) = some l := by
    rw [natsOf_bytesOf _ (fun x hx => Nat.le_trans (hexL_le l hl x hx) (by omega))]
    exact unhexL_hexL l hl
  have hsz2 : (bytesOf (hexL l)).size ≤ 2097152 := by rw [bytesOf_size, hexL_len, hlen]; omega
  have hUL : ∀ x ∈ (unhexL (natsOf s)).getD [], x ≤ 255 := by
    cases hu : unhexL (natsOf s) with
    | none => simp
    | some m => exact unhexL_le _ _ hu
  have HF := hidP hF; clear hF
  have HUH := hidP hUH; clear hUH
  have HUL := hidP hUL; clear hUL
  have HS := hidP hs; clear hs
  have HL := hidP hl; clear hl
  have HLEN := hidP hlen; clear hlen
  go_enter Tryd.func4, Tryd.ntmps4
  go_wp2_with fail
  refine (f_Unhex_any s _ (by omega)).mono ?_
  rintro e w1 h1
  obtain ⟨a1, n1, c1, rfl, hs1, he1⟩ := h1.flat
  clear h1
  go_wp2_with fail
  refine (r07_Unhex_any s _ (by omega)).mono ?_
  rintro e w2 h2
  obtain ⟨a2, n2, c2, rfl, hs2, he2⟩ := h2.flat
  clear h2
  go_wp2_with fail
  refine (f_Hex_any a n cap l _ (HS.out.ext (he1.trans he2)) HL.out (by omega) (HF.out.ext (he1.trans he2))).mono ?_
  rintro e w3 ⟨rfl, he3⟩
  go_wp2_with fail
  refine (f_Unhex_any _ _ (by omega)).mono ?_
  rw [HUH.out]
  rintro e w4 ⟨a4, n4, c4, rfl, hs4, he4⟩
  have E4 := he1.trans (he2.trans (he3.trans he4))
  go_wp2_with fail
  refine (f_Hex_any a n cap l _ (HS.out.ext E4) HL.out (by omega) (HF.out.ext E4)).mono ?_
  rintro e w5 ⟨rfl, he5⟩
  have E5 := E4.trans he5
  go_wp2_with fail
  refine (r07_Hex_any a n cap l _ (HS.out.ext E5) HL.out (by omega)).mono ?_
  rintro e w6 ⟨rfl, he6⟩
  have E6 := E5.trans he6
  have k1 := str_of (hs1.ext (he2.trans (he3.trans (he4.trans (he5.trans he6))))) HUL.out
  have k2 := str_of (hs2.ext (he3.trans (he4.trans (he5.trans he6)))) HUL.out
  have k4 := str_of (hs4.ext (he5.trans he6)) HL.out
  have k5 := str_of (HS.out.ext E6) HL.out
  generalize bytesOf (hexL l) = hx at *
  generalize bytesOf ((unhexL (natsOf s)).getD []) = ux at *
  generalize bytesOf l = bl at *
  generalize ucode (unhexL (natsOf s)) = uc at *
  go_wp2_with fail
  refine (f_lives_any _ (HF.out.ext E6)).mono ?_
  rintro e w7 ⟨rfl, he7⟩
  go_wp2_with fail
  go_ret
  exact ⟨rfl, E6.trans he7⟩

end Go.Proofs.YtbhjookpdmfdnaaDoor
