/- The document's whole numbers (frisketref02): the number of a text. -/
import Derived.Test.YtcipcpbjkcpgdaaE5
namespace Go.Proofs.Ytcipcpbjkcpgdaa
set_option linter.unusedVariables false
open Go Go.RowKit

theorem bodyPost_cells_tmp2 {P : Program} {fn : Func} {R : Ending → World → Prop} {a : Act} {w : World} {p q : Tmp} {ty : TypeId} {d : TypeDesc} {g : Nat} {cs : Array Value} {v : Value} (h : fn.results = #[.cell p ty, .tmp q])
    (hp : a.tmps.getD p undef = .pointer (some ⟨g, 0, none⟩)) (hu : P.underlying ty = some d) (hd : (match d with | .struct _ | .array _ _ => true | _ => false) = true) (hi : (P.info? ty).map (·.size) = some cs.size)
    (hg : ∀ j v, cs.toList[j]? = some v → w.cell? ⟨g, j, none⟩ = some v) (hq : a.tmps.getD q undef = v) (hdef : a.defers = []) (hR : R (.returned (.tuple #[.agg cs, v])) w) : bodyPost P fn R .ret a w := by
  refine bodyPost_ret (v := .tuple #[.agg cs, v]) ?_ hdef hR
  have hp' : a.tmps[p]?.getD undef = .pointer (some ⟨g, 0, none⟩) := by simpa using hp
  have hq' : a.tmps[q]?.getD undef = v := by simpa using hq
  simp [results, h, hp', hq', asAddr, run_loadVar_cells w g ty cs d hg hu hd hi]

def isNeg (l : List Nat) : Bool := decide (l.getD 0 0 = 45)
def behind (l : List Nat) : List Nat := if isNeg l then l.drop 1 else l
/-- What Parse answers: what is wrong, and the number. -/
def whParse (l : List Nat) : Nat × Int :=
  if 2000 < (behind l).length then (4, 0) else if ¬ PlainL (behind l) then (3, 0) else if isNeg l = true ∧ dval (behind l) = 0 then (3, 0) else (0, wz (isNeg l) (dval (behind l)))
def ParseW (w : World) (r : Nat × Int) (e : Ending) (w' : World) : Prop :=
  ∃ a n cap, e = .returned (.tuple #[.agg #[.bool (decide (r.2 < 0)), .slice a n cap], .int .i64 ((r.1 : Nat) : Int)]) ∧ Sl w' a n cap (ints .u32 (dig B32 r.2.natAbs)) ∧ Ext w w'

theorem ParseW.zero {w u : World} {g c x2 x3 : Nat} {b0 : Bool} {x1 : Option Addr} (h0 : u.cell? ⟨g, 0, none⟩ = some (.bool b0)) (h1 : u.cell? ⟨g, 1, none⟩ = some (.slice x1 x2 x3)) (he : Ext w u) (hg : w.heap.size ≤ g) :
    ParseW w (c, 0) (.returned (.tuple #[.agg #[.bool false, .slice none 0 0], .int .i64 (c : Int)])) ((u.setCell ⟨g, 0, none⟩ (.bool false)).setCell ⟨g, 1, none⟩ (.slice none 0 0)) :=
  ⟨none, 0, 0, rfl, by simpa [dig_zero, ints] using Sl.nil _, (he.store hg _).store hg _⟩
theorem ParseW.some {w u : World} {g x2 x3 : Nat} {b0 b : Bool} {x1 a : Option Addr} {n cap : Nat} {z : Int} (h0 : u.cell? ⟨g, 0, none⟩ = some (.bool b0)) (h1 : u.cell? ⟨g, 1, none⟩ = some (.slice x1 x2 x3)) (hs : Sl u a n cap (ints .u32 (dig B32 z.natAbs)))
    (he : Ext w u) (hg : w.heap.size ≤ g) (hb : b = decide (z < 0)) :
    ParseW w (0, z) (.returned (.tuple #[.agg #[.bool b, .slice a n cap], .int .i64 0])) ((u.setCell ⟨g, 0, none⟩ (.bool b)).setCell ⟨g, 1, none⟩ (.slice a n cap)) := by
  obtain ⟨a', n', cap', h, hs', he'⟩ := RetW.stored h0 h1 hs he hg hb
  simp only [Ending.returned.injEq, Value.agg.injEq] at h
  have h2 := congrArg Array.toList h
  simp at h2
  obtain ⟨rfl, rfl, rfl, rfl⟩ := h2
  exact ⟨a, n, cap, rfl, hs', he'⟩

set_option maxRecDepth 100000 in
set_option maxHeartbeats 2000000 in
theorem r02_Parse_any (s : ByteArray) (w : World) :
    Calls Try.prog 81 #[.string s] w (ParseW w (whParse (natsOf s))) := by
  have hat := natsOf_at s
  by_cases h0 : s.size = 0
  · obtain rfl := size_zero h0
    have hN : natsOf ⟨#[]⟩ = [] := rfl
    have HR : Hid (whParse (natsOf ⟨#[]⟩) = (3, 0)) := hidP (by rw [hN]; decide)
    rw [HR.out]
    go_enter Try.func81, Try.ntmps81
    go_wp2_with fail
    refine (r01_Parse_any _ _).mono ?_
    rintro e w1 h1
    rcases h1 with ⟨h, _⟩ | ⟨_, _, rfl, he1⟩ | ⟨_, h, _⟩
    · rw [hN] at h; simp at h
    · have z0 := he1.cell' (p := ⟨w.heap.size, 0, none⟩) (v := .bool false) (by go_simp; try rfl)
      have q0 : w1.frozen? ⟨w.heap.size, 0, none⟩ = false := (he1.frozen (p := ⟨w.heap.size, 0, none⟩) (by simp)).trans (by go_simp)
      have z1 := he1.cell' (p := ⟨w.heap.size, 1, none⟩) (v := .slice none 0 0) (by go_simp; try rfl)
      have q1 : w1.frozen? ⟨w.heap.size, 1, none⟩ = false := (he1.frozen (p := ⟨w.heap.size, 1, none⟩) (by simp)).trans (by go_simp)
      have HE : Ext w w1 := ((Ext.refl _).alloc _).trans he1
      clear he1
      go_wp2_with fail
      refine bodyPost_cells_tmp2 rfl rfl Try.underlying51 rfl (by kernel_rfl) (two (by go_simp; try rfl) (by go_simp; try rfl)) rfl rfl ?_
      exact ParseW.zero z0 z1 HE (Nat.le_refl _)
    · exact absurd h (by rw [hN]; decide)
  have h00 : 0 < s.size := by omega
  have hne : s.toList.isEmpty = false := by
    rw [toList_data]
    cases hd : s.data.toList with
    | nil => have : s.data.toList.length = 0 := by rw [hd]; rfl
             have h2 : s.size = s.data.toList.length := rfl
             omega
    | cons x r => rfl
  have ha0 := hat 0 h00
  clear hat
  by_cases hz : s[0].toNat = 45
  · have z3 : ((s[0].toNat : Int) == 45) = true := by simp; omega
    have hng : isNeg (natsOf s) = true := by unfold isNeg; rw [ha0]; simpa using hz
    have hds : behind (natsOf s) = natsOf (s.extract 1 s.size) := by unfold behind; rw [hng, natsOf_drop1]; rfl
    generalize hs1d : s.extract 1 s.size = s1 at *
    have HS1 := hidP hs1d; clear hs1d
    have hR : whParse (natsOf s) = if 2000 < (natsOf s1).length then (4, 0) else if ¬ PlainL (natsOf s1) then (3, 0) else if true = true ∧ dval (natsOf s1) = 0 then (3, 0) else (0, wz true (dval (natsOf s1))) := by
      unfold whParse; rw [hng, hds]
    have HR := hidP hR
    clear hR hng hds ha0
    generalize whParse (natsOf s) = RR at *
    go_enter Try.func81, Try.ntmps81
    go_wp2_with fail
    rw [HS1.out]
    refine (r01_Parse_any _ _).mono ?_
    rintro e w1 h1
    rcases h1 with ⟨hb, rfl, he1⟩ | ⟨hb, hp, rfl, he1⟩ | ⟨hb, hp, a1, n1, cap1, rfl, hs1, he1⟩
    · have HQ : Hid (RR = (4, 0)) := hidP (by rw [HR.out, if_pos hb])
      have z0 := he1.cell' (p := ⟨w.heap.size, 0, none⟩) (v := .bool false) (by go_simp; try rfl)
      have q0 : w1.frozen? ⟨w.heap.size, 0, none⟩ = false := (he1.frozen (p := ⟨w.heap.size, 0, none⟩) (by simp)).trans (by go_simp)
      have z1 := he1.cell' (p := ⟨w.heap.size, 1, none⟩) (v := .slice none 0 0) (by go_simp; try rfl)
      have q1 : w1.frozen? ⟨w.heap.size, 1, none⟩ = false := (he1.frozen (p := ⟨w.heap.size, 1, none⟩) (by simp)).trans (by go_simp)
      have HE : Ext w w1 := ((Ext.refl _).alloc _).trans he1
      clear he1
      go_wp2_with fail
      refine bodyPost_cells_tmp2 rfl rfl Try.underlying51 rfl (by kernel_rfl) (two (by go_simp; try rfl) (by go_simp; try rfl)) rfl rfl ?_
      rw [HQ.out]
      exact ParseW.zero z0 z1 HE (Nat.le_refl _)
    · have HQ : Hid (RR = (3, 0)) := hidP (by rw [HR.out, if_neg (by omega), if_pos hp])
      have z0 := he1.cell' (p := ⟨w.heap.size, 0, none⟩) (v := .bool false) (by go_simp; try rfl)
      have q0 : w1.frozen? ⟨w.heap.size, 0, none⟩ = false := (he1.frozen (p := ⟨w.heap.size, 0, none⟩) (by simp)).trans (by go_simp)
      have z1 := he1.cell' (p := ⟨w.heap.size, 1, none⟩) (v := .slice none 0 0) (by go_simp; try rfl)
      have q1 : w1.frozen? ⟨w.heap.size, 1, none⟩ = false := (he1.frozen (p := ⟨w.heap.size, 1, none⟩) (by simp)).trans (by go_simp)
      have HE : Ext w w1 := ((Ext.refl _).alloc _).trans he1
      clear he1
      go_wp2_with fail
      refine bodyPost_cells_tmp2 rfl rfl Try.underlying51 rfl (by kernel_rfl) (two (by go_simp; try rfl) (by go_simp; try rfl)) rfl rfl ?_
      rw [HQ.out]
      exact ParseW.zero z0 z1 HE (Nat.le_refl _)
    · have HP := hidP hp
      have hn1 : n1 ≤ 2000 := (by have := natsOf_len s1; have h3 := dval_lt (natsOf s1) (fun c hc => (HP.out.2.2 c hc).2); have h4 := dig_len_le B32_two h3; have h5 := hs1.int_len; omega)
      clear hp
      have z0 := he1.cell' (p := ⟨w.heap.size, 0, none⟩) (v := .bool false) (by go_simp; try rfl)
      have q0 : w1.frozen? ⟨w.heap.size, 0, none⟩ = false := (he1.frozen (p := ⟨w.heap.size, 0, none⟩) (by simp)).trans (by go_simp)
      have z1 := he1.cell' (p := ⟨w.heap.size, 1, none⟩) (v := .slice none 0 0) (by go_simp; try rfl)
      have q1 : w1.frozen? ⟨w.heap.size, 1, none⟩ = false := (he1.frozen (p := ⟨w.heap.size, 1, none⟩) (by simp)).trans (by go_simp)
      have HE : Ext w w1 := ((Ext.refl _).alloc _).trans he1
      clear he1
      by_cases hv0 : dval (natsOf s1) = 0
      · have HQ : Hid (RR = (3, 0)) := hidP (by rw [HR.out, if_neg (by omega), if_neg (fun h => h HP.out), if_pos ⟨by trivial, hv0⟩])
        obtain rfl : n1 = 0 := by have h5 := hs1.int_len; rw [hv0, dig_zero] at h5; exact h5.symm
        clear hs1 hv0
        go_wp2_with fail
        refine bodyPost_cells_tmp2 rfl rfl Try.underlying51 rfl (by kernel_rfl) (two (by go_simp; try rfl) (by go_simp; try rfl)) rfl rfl ?_
        rw [HQ.out]
        exact ParseW.zero z0 z1 HE (Nat.le_refl _)
      · have hn0 : ((n1 : Int) == 0) = false := by
          have h5 := hs1.int_len
          have h6 := @dig_len_pos (dval (natsOf s1))
          simp; omega
        have HV0 := hidP hv0; clear hv0
        have hq : RR = (0, wz true (dval (natsOf s1))) := by rw [HR.out, if_neg (by omega), if_neg (fun h => h HP.out), if_neg (fun h => HV0.out h.2)]
        have HQ := hidP hq; clear hq
        go_wp2_with fail
        refine (r02_Make_any true a1 n1 cap1 _ _ hs1 (Ws.dig _) (by omega)).mono ?_
        rw [val_dig B32_two]
        rintro e w3 ⟨a3, n3, cap3, rfl, hs3, he3⟩
        have hgl : w.heap.size < w1.heap.size := World.block_lt_of_cell? w1 _ z0
        replace z0 := he3.cell' z0
        replace z1 := he3.cell' z1
        replace q0 := (he3.frozen (p := ⟨w.heap.size, 0, none⟩) hgl).trans q0
        replace q1 := (he3.frozen (p := ⟨w.heap.size, 1, none⟩) hgl).trans q1
        replace HE := HE.trans he3
        clear he3 hs1 hgl
        generalize hbb : decide (wz true (dval (natsOf s1)) < 0) = bb at *
        have HBB := hidP hbb; clear hbb
        go_wp2_with fail
        refine bodyPost_cells_tmp2 rfl rfl Try.underlying51 rfl (by kernel_rfl) (two (by go_simp; try rfl) (by go_simp; try rfl)) rfl rfl ?_
        rw [HQ.out]
        exact ParseW.some z0 z1 hs3 HE (Nat.le_refl _) HBB.out.symm
  · have z3 : ((s[0].toNat : Int) == 45) = false := by simp; omega
    have hng : isNeg (natsOf s) = false := by unfold isNeg; rw [ha0]; simpa using hz
    have hds : behind (natsOf s) = natsOf s := by unfold behind; rw [hng]; rfl
    have hR : whParse (natsOf s) = if 2000 < (natsOf s).length then (4, 0) else if ¬ PlainL (natsOf s) then (3, 0) else if false = true ∧ dval (natsOf s) = 0 then (3, 0) else (0, wz false (dval (natsOf s))) := by
      unfold whParse; rw [hng, hds]
    have HR := hidP hR
    clear hR hng hds ha0
    generalize whParse (natsOf s) = RR at *
    go_enter Try.func81, Try.ntmps81
    go_wp2_with fail
    refine (r01_Parse_any _ _).mono ?_
    rintro e w1 h1
    rcases h1 with ⟨hb, rfl, he1⟩ | ⟨hb, hp, rfl, he1⟩ | ⟨hb, hp, a1, n1, cap1, rfl, hs1, he1⟩
    · have HQ : Hid (RR = (4, 0)) := hidP (by rw [HR.out, if_pos hb])
      have z0 := he1.cell' (p := ⟨w.heap.size, 0, none⟩) (v := .bool false) (by go_simp; try rfl)
      have q0 : w1.frozen? ⟨w.heap.size, 0, none⟩ = false := (he1.frozen (p := ⟨w.heap.size, 0, none⟩) (by simp)).trans (by go_simp)
      have z1 := he1.cell' (p := ⟨w.heap.size, 1, none⟩) (v := .slice none 0 0) (by go_simp; try rfl)
      have q1 : w1.frozen? ⟨w.heap.size, 1, none⟩ = false := (he1.frozen (p := ⟨w.heap.size, 1, none⟩) (by simp)).trans (by go_simp)
      have HE : Ext w w1 := ((Ext.refl _).alloc _).trans he1
      clear he1
      go_wp2_with fail
      refine bodyPost_cells_tmp2 rfl rfl Try.underlying51 rfl (by kernel_rfl) (two (by go_simp; try rfl) (by go_simp; try rfl)) rfl rfl ?_
      rw [HQ.out]
      exact ParseW.zero z0 z1 HE (Nat.le_refl _)
    · have HQ : Hid (RR = (3, 0)) := hidP (by rw [HR.out, if_neg (by omega), if_pos hp])
      have z0 := he1.cell' (p := ⟨w.heap.size, 0, none⟩) (v := .bool false) (by go_simp; try rfl)
      have q0 : w1.frozen? ⟨w.heap.size, 0, none⟩ = false := (he1.frozen (p := ⟨w.heap.size, 0, none⟩) (by simp)).trans (by go_simp)
      have z1 := he1.cell' (p := ⟨w.heap.size, 1, none⟩) (v := .slice none 0 0) (by go_simp; try rfl)
      have q1 : w1.frozen? ⟨w.heap.size, 1, none⟩ = false := (he1.frozen (p := ⟨w.heap.size, 1, none⟩) (by simp)).trans (by go_simp)
      have HE : Ext w w1 := ((Ext.refl _).alloc _).trans he1
      clear he1
      go_wp2_with fail
      refine bodyPost_cells_tmp2 rfl rfl Try.underlying51 rfl (by kernel_rfl) (two (by go_simp; try rfl) (by go_simp; try rfl)) rfl rfl ?_
      rw [HQ.out]
      exact ParseW.zero z0 z1 HE (Nat.le_refl _)
    · have HP := hidP hp
      have hn1 : n1 ≤ 2000 := (by have := natsOf_len s; have h3 := dval_lt (natsOf s) (fun c hc => (HP.out.2.2 c hc).2); have h4 := dig_len_le B32_two h3; have h5 := hs1.int_len; omega)
      clear hp
      have z0 := he1.cell' (p := ⟨w.heap.size, 0, none⟩) (v := .bool false) (by go_simp; try rfl)
      have q0 : w1.frozen? ⟨w.heap.size, 0, none⟩ = false := (he1.frozen (p := ⟨w.heap.size, 0, none⟩) (by simp)).trans (by go_simp)
      have z1 := he1.cell' (p := ⟨w.heap.size, 1, none⟩) (v := .slice none 0 0) (by go_simp; try rfl)
      have q1 : w1.frozen? ⟨w.heap.size, 1, none⟩ = false := (he1.frozen (p := ⟨w.heap.size, 1, none⟩) (by simp)).trans (by go_simp)
      have HE : Ext w w1 := ((Ext.refl _).alloc _).trans he1
      clear he1
      have hq : RR = (0, wz false (dval (natsOf s))) := by rw [HR.out, if_neg (by omega), if_neg (fun h => h HP.out), if_neg (fun h => by cases h.1)]
      have HQ := hidP hq; clear hq
      go_wp2_with fail
      refine (r02_Make_any false a1 n1 cap1 _ _ hs1 (Ws.dig _) (by omega)).mono ?_
      rw [val_dig B32_two]
      rintro e w3 ⟨a3, n3, cap3, rfl, hs3, he3⟩
      have hgl : w.heap.size < w1.heap.size := World.block_lt_of_cell? w1 _ z0
      replace z0 := he3.cell' z0
      replace z1 := he3.cell' z1
      replace q0 := (he3.frozen (p := ⟨w.heap.size, 0, none⟩) hgl).trans q0
      replace q1 := (he3.frozen (p := ⟨w.heap.size, 1, none⟩) hgl).trans q1
      replace HE := HE.trans he3
      clear he3 hs1 hgl
      generalize hbb : decide (wz false (dval (natsOf s)) < 0) = bb at *
      have HBB := hidP hbb; clear hbb
      go_wp2_with fail
      refine bodyPost_cells_tmp2 rfl rfl Try.underlying51 rfl (by kernel_rfl) (two (by go_simp; try rfl) (by go_simp; try rfl)) rfl rfl ?_
      rw [HQ.out]
      exact ParseW.some z0 z1 hs3 HE (Nat.le_refl _) HBB.out.symm

end Go.Proofs.Ytcipcpbjkcpgdaa
