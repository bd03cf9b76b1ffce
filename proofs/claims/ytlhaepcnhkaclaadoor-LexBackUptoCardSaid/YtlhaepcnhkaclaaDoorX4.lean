/- A line's words, and a line: the program's. -/
import Derived.Test.YtlhaepcnhkaclaaDoorX3
namespace Go.Proofs.YtlhaepcnhkaclaaDoor
set_option linter.unusedVariables false
set_option linter.unusedSimpArgs false
open Go Go.RowKit

/-- A line's words; none: it isn't words with one blank between. -/
def wordsL (l : List Nat) : Option (List (List Nat)) := if (splitL 32 l).all wordL = true then some (splitL 32 l) else none
def strN (ps : List (List Nat)) : List Value := strs (ps.map bytesOf)
theorem strN_len (ps : List (List Nat)) : (strN ps).length = ps.length := by simp [strN, strs]
theorem strN_snoc (ps : List (List Nat)) (p : List Nat) : strN (ps ++ [p]) = strN ps ++ [.string (bytesOf p)] := by simp [strN, strs]
/-- A row of strings and yes, or none. -/
def RetWs (w : World) (r : Option (List (List Nat))) (e : Ending) (w' : World) : Prop :=
  match r with
  | none => e = .returned (.tuple #[.slice none 0 0, .bool false]) ∧ Ext w w'
  | some ps => ∃ v, e = .returned (.tuple #[v, .bool true]) ∧ w'.ownsRow 0 9 1 v ps.length (strN ps) ∧ Ext w w'
theorem owns_base {w : World} {B B' K n : Nat} {e : TypeId} {v : Value} {xs : List Value} (h : w.ownsRow B e K v n xs) (hB : B' ≤ B) : w.ownsRow B' e K v n xs := by
  refine ⟨h.1, ?_⟩
  rcases h.2 with h2 | ⟨g, cap, cur, hv, hg, r⟩
  · exact .inl h2
  · exact .inr ⟨g, cap, cur, hv, Nat.le_trans hB hg, r⟩
theorem words_no {l : List Nat} {j : Nat} {p : List Nat} (hp : (splitL 32 l)[j]? = some p) (h : wordL p = false) : wordsL l = none := by
  unfold wordsL
  rw [if_neg]
  intro hh
  rw [List.all_eq_true] at hh
  have := hh p (List.mem_of_getElem? hp)
  rw [h] at this
  cases this

set_option maxRecDepth 100000 in
set_option maxHeartbeats 4000000 in
theorem x_words (g o n c : Nat) (l : List Nat) (w : World) (h : Sl w (some ⟨g, o, none⟩) n c (ints .u8 l)) (hl : ∀ x ∈ l, x ≤ 255) (hn : n ≤ 4096) :
    Calls Tryd.prog 29 #[.slice (some ⟨g, o, none⟩) n c] w (RetWs w (wordsL l)) := by
  have HLE := hidP (splitL_le (v := 32) hl)
  have HNO := hidP (fun (j : Nat) (p : List Nat) (h1 : (splitL 32 l)[j]? = some p) (h2 : wordL p = false) => words_no h1 h2)
  have HYES : Hid (((splitL 32 l).take (splitL 32 l).length).all wordL = true → wordsL l = some (splitL 32 l)) := hidP (fun h => by
    rw [List.take_of_length_le (Nat.le_refl _)] at h
    exact if_pos h)
  have hcl : (splitL 32 l).length ≤ 4097 := by
    have h1 := splitL_len 32 l
    have h2 := h.int_len
    have h3 : l.count 32 ≤ l.length := List.count_le_length
    omega
  have HA0 : Hid (((splitL 32 l).take 0).all wordL = true) := hidP rfl
  have HSP := hidP (fun (u : World) (b2 o2 d : Nat) (t : Sl u (some ⟨g, o, none⟩) n c (ints .u8 l)) (hc : u.cell? ⟨b2, o2, none⟩ = some (.int .u8 32)) => x_Split g o n c b2 o2 d l u t hl hn hc)
  have H := hidP h
  generalize splitL 32 l = ps at *
  generalize wordsL l = rr at *
  clear h hl
  go_enter Tryd.func29, Tryd.ntmps29
  go_wp2_with fail
  refine absC (fun x1 hx1 => ?_)
  have hx : Ext w x1 := by rw [hx1]; exact (Ext.refl _).alloc _
  have hc : x1.cell? ⟨w.heap.size, 0, none⟩ = some (.int .u8 32) := by
    rw [hx1]
    have := Bl.new (w := w) (cs := #[.int .u8 32]) (e := 5) rfl
    exact (this 0).trans rfl
  clear hx1
  refine (HSP.out x1 _ _ _ (H.out.ext hx) hc).mono ?_
  rintro e u1 ⟨N, rfl, hrow, hx2⟩
  have hx3 := hx.trans hx2
  generalize x1.heap.size = gr at *
  have HROW := hidP hrow
  clear hc hx hx2 hrow
  go_wp2_with fail
  go_loopw [4, 11] (fun v i wr => ∃ j : Nat, j ≤ ps.length ∧ i = .int .i64 (j : Int) ∧ wr.ownsRow u1.heap.size 9 1 v j (strN (ps.take j)) ∧ Hid ((ps.take j).all wordL = true) ∧ Ext u1 wr) (fun _ i _ => ps.length - (intOf i).toNat)
  case atStart => exact ⟨0, Nat.zero_le _, rfl, World.ownsRow_nil _ _ _ _, HA0, Ext.refl _⟩
  case round =>
    clear HA0
    obtain ⟨j, hj, rfl, hown, HA, HE⟩ := hrel
    by_cases hlt : j < ps.length
    · have hlt0 := hlt
      obtain ⟨a2, n2, c2, h1, h2⟩ := (HROW.out.ext HE) j hlt
      have HP : Hid (ps[j]? = some ps[j]) := hidP (List.getElem?_eq_getElem hlt)
      have HT : Hid (ps.take (j + 1) = ps.take j ++ [ps[j]]) := hidP (List.take_succ_eq_append_getElem hlt)
      have hle : ∀ x ∈ ps[j], x ≤ 255 := HLE.out _ (List.getElem_mem hlt)
      have hcv := str_of h2 hle
      have hnl := h2.int_len
      have hn2 : n2 ≤ 9223372036854775807 := by have := h2.2.1; have := h2.2.2.1; unfold maxLen at this; omega
      have HW := hidP (fun (u : World) => (by
        have := x_Word (bytesOf ps[j]) u (by rw [bytesOf_size, hnl]; exact hn2)
        rw [natsOf_bytesOf _ hle] at this
        exact this : Calls Tryd.prog 18 #[.string (bytesOf ps[j])] u fun e w' => e = .returned (.bool (wordL ps[j])) ∧ u = w'))
      generalize ps[j] = p at *
      clear h2 hle hnl hn2
      cases hw : wordL p
      · have HR := hidP (HNO.out j p HP.out hw)
        rw [hw] at HW
        clear hw
        go_wp2_with fail
        refine (HW.out _).mono ?_
        rintro e u2 ⟨rfl, rfl⟩
        go_wp2_with fail
        go_ret2
        rw [HR.out]
        exact ⟨rfl, hx3.trans HE⟩
      · have HA2 : Hid ((ps.take (j + 1)).all wordL = true) := hidP (by rw [HT.out, List.all_append, HA.out]; simp [hw])
        rw [hw] at HW
        clear hw HA
        go_wp2_with fail
        refine (HW.out _).mono ?_
        rintro e u2 ⟨rfl, rfl⟩
        go_wp2_with (at_builtin; refine wpList_appW1 T_str rfl _ _ rfl hown HE _ rfl rfl rfl (by omega) (by omega) ?_; intro v' w' hown' he')
        go_roundw
        case rel => exact ⟨j + 1, by omega, by go_num, by rw [HT.out, strN_snoc]; exact hown', HA2, he'⟩
        case measure => simp only [intOf]; omega
    · obtain rfl : j = ps.length := by omega
      have HR := hidP (HYES.out HA.out)
      rw [List.take_of_length_le (Nat.le_refl _)] at hown
      have hown' := owns_base hown (Nat.zero_le _)
      obtain ⟨a5, cap5, rfl, hsl⟩ := Sl.of_owns hown
      go_wp2_with fail
      go_ret2
      rw [HR.out]
      exact ⟨_, rfl, hown', hx3.trans HE⟩

/-- A line: an error's number, and its words. -/
def oneL (n : Nat) (l : List Nat) (ends : Bool) : Nat × List (List Nat) :=
  if 1000 < n then (7, []) else if ends = false then (11, []) else if 4096 < l.length then (14, []) else match wordsL l with
    | none => (3, [])
    | some ps => (0, ps)
def RetOne (w : World) (r : Nat × List (List Nat)) (e : Ending) (w' : World) : Prop := ∃ v, e = .returned (.tuple #[v, .int .i64 (r.1 : Int)]) ∧ w'.ownsRow 0 9 1 v r.2.length (strN r.2) ∧ Ext w w'
set_option maxRecDepth 100000 in
set_option maxHeartbeats 4000000 in
theorem x_one (k g o n c : Nat) (ends : Bool) (l : List Nat) (w : World) (h : Sl w (some ⟨g, o, none⟩) n c (ints .u8 l)) (hl : ∀ x ∈ l, x ≤ 255) (hk : k ≤ 9223372036854775807) :
    Calls Tryd.prog 16 #[.int .i64 (k : Int), .slice (some ⟨g, o, none⟩) n c, .bool ends] w (RetOne w (oneL k l ends)) := by
  have hlen := h.int_len
  by_cases h1 : 1000 < k
  · have HR : Hid (oneL k l ends = (7, [])) := hidP (if_pos h1)
    clear h hlen
    generalize oneL k l ends = rr at *
    go_enter Tryd.func16, Tryd.ntmps16
    go_wp2
    go_ret2
    rw [HR.out]
    exact ⟨_, rfl, World.ownsRow_nil _ _ _ _, Ext.refl _⟩
  · cases ends
    · have HR : Hid (oneL k l false = (11, [])) := hidP (by unfold oneL; rw [if_neg h1, if_pos rfl])
      have h2 : ¬ (1000 : Int) < (k : Int) := by omega
      clear h hlen h1
      generalize oneL k l false = rr at *
      go_enter Tryd.func16, Tryd.ntmps16
      go_wp2
      go_ret2
      rw [HR.out]
      exact ⟨_, rfl, World.ownsRow_nil _ _ _ _, Ext.refl _⟩
    · have h2 : ¬ (1000 : Int) < (k : Int) := by omega
      by_cases h3 : 4096 < n
      · have HR : Hid (oneL k l true = (14, [])) := hidP (by unfold oneL; rw [if_neg h1, if_neg (by simp), if_pos (by omega)])
        have h4 : (4096 : Int) < (n : Int) := by omega
        clear h hlen h1 h3
        generalize oneL k l true = rr at *
        go_enter Tryd.func16, Tryd.ntmps16
        go_wp2
        go_ret2
        rw [HR.out]
        exact ⟨_, rfl, World.ownsRow_nil _ _ _ _, Ext.refl _⟩
      · have HR : Hid (oneL k l true = match wordsL l with
          | none => (3, [])
          | some ps => (0, ps)) := hidP (by unfold oneL; rw [if_neg h1, if_neg (by simp), if_neg (by omega)])
        have h4 : ¬ (4096 : Int) < (n : Int) := by omega
        have HW := hidP (x_words g o n c l w h hl (by omega))
        clear h hlen h1 h3
        generalize oneL k l true = rr at *
        generalize wordsL l = ww at *
        go_enter Tryd.func16, Tryd.ntmps16
        go_wp2_with fail
        refine HW.out.mono ?_
        cases ww with
        | none =>
          rintro e u1 ⟨rfl, hx⟩
          go_wp2_with fail
          go_ret2
          rw [HR.out]
          exact ⟨_, rfl, World.ownsRow_nil _ _ _ _, hx⟩
        | some ps =>
          rintro e u1 ⟨v1, rfl, hs, hx⟩
          go_wp2_with fail
          go_ret2
          rw [HR.out]
          exact ⟨_, rfl, hs, hx⟩

end Go.Proofs.YtlhaepcnhkaclaaDoor
