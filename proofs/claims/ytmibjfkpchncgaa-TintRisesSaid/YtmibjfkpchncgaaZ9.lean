/- Paints: what plays no part changes nothing: the walk. -/
import Derived.Test.YtmibjfkpchncgaaZ8
namespace Go.Proofs.Ytmibjfkpchncgaa
set_option linter.unusedVariables false
set_option linter.unusedSimpArgs false
open Go Go.RowKit

/-- A block of 22 cells, read whole. -/
def BlO (w : World) (g : Nat) (cs : Array Value) : Prop := Bl w g cs ∧ cs.size = 22
theorem BlO.ext {w u : World} {g : Nat} {cs : Array Value} (h : BlO w g cs) (he : Ext w u) : BlO u g cs := ⟨Bl.ext he h.1 (by rw [h.2]; decide), h.2⟩
theorem exec_loadO {w : World} {g : Nat} {cs : Array Value} (h : BlO w g cs) {ρ : Operand → Value} {o : Oper} {x : Operand} (ho : o.op = .load 30 x) (hx : ρ x = .pointer (some ⟨g, 0, none⟩)) : (execOp ρ o).run Try.prog w = .ok (.value (.agg cs)) w := exec_loadB h.1 ho hx h.2


set_option maxRecDepth 100000 in
set_option maxHeartbeats 4000000 in
theorem used_no (pc q : Array Value) (ax ay : Int) (w : World) (hpc : pc.size = 22) (hqs : q.size = 22) (hq1 : ∀ v ∈ q.toList, v.oneCell' = true)
    (hU : ∀ u : World, Calls Try.prog 9 #[.agg pc] u fun e w' => e = .returned (.agg q) ∧ Ext u w') (hE : ∀ u : World, Calls Try.prog 11 #[.agg pc] u fun e w' => e = .returned (.agg q) ∧ Ext u w')
    (hS : ∀ u : World, Calls Try.prog 10 #[.agg q, .agg q] u fun e w' => e = .returned (.bool true) ∧ Ext u w') (hM : ∀ u : World, Calls Try.prog 12 #[.agg pc] u fun e w' => e = .returned (.bool false) ∧ Ext u w') :
    Calls Try.prog 4 #[.agg pc, .agg #[.int .i64 ax, .int .i64 ay]] w fun e w' => e = .returned (.bool true) ∧ Ext w w' := by
  have HU := hidP hU; have HE' := hidP hE; have HS := hidP hS; have HM := hidP hM
  clear hU hE hS hM
  have H1 := hidP hq1; have HP := hidP hpc; have HQ := hidP hqs
  clear hq1 hpc hqs
  go_enter Try.func4, Try.ntmps4
  go_upto_region 1 with fail
  refine absW (fun x1 hx1 => ?_)
  have hx : Ext w x1 := by rw [hx1]; exact (((Ext.refl _).alloc _).alloc _)
  have hp : BlO x1 w.heap.size pc := by rw [hx1]; exact ⟨(Bl.new rfl).alloc (by rw [HP.out]; decide), HP.out⟩
  have bz : Bl x1 (w.heap.size + 1) #[.int .i64 ax, .int .i64 ay] := by rw [hx1]; exact Bl.new (by simp)
  have HE := hx
  clear hx hx1
  go_wp2_with (first | (refine wpList_execW rfl (exec_loadO hp rfl rfl) ?_))
  refine (HU.out _).mono ?_
  rintro e u1 ⟨rfl, hx⟩
  replace bz := Bl.ext hx bz (Nat.succ_pos _)
  replace hp := hp.ext hx
  replace HE := HE.trans hx
  clear hx
  go_upto_region 2 with (first | (refine wpList_storeB (Bl.new (by simp)) (Fz.new (by simp)) rfl rfl rfl rfl rfl HQ.out H1.out rfl ?_; intro ue bq fq hbu hex))
  have hxe : Ext u1 ue := hex u1 ((Ext.refl _).alloc _) (Nat.le_refl _)
  have hq : BlO ue u1.heap.size q := ⟨bq, HQ.out⟩
  clear hbu hex fq bq
  replace bz := Bl.ext hxe bz (Nat.succ_pos _)
  replace hp := hp.ext hxe
  replace HE := HE.trans hxe
  clear hxe
  refine wp_region_plan (R := Ext) (.q 0 (.q 1 (.l 2 (.l 3 (.q 4 (.q 5 (.l 6 (.q 7 (.q 8 (.q 9 (.l 10 (.q 11 (.q 12 (.q 13 (.q 15 (.q 16 (.l 14 (.l 17 (.q 18 (.q 19 (.q 20 (.q 21 (.q 23 (.l 22 (.l 24 (.q 25 (.q 26 (.q 27 (.q 28 (.l 29 (.q 30 (.q 31 .done)))))))))))))))))))))))))))))))) (by kernel_rfl) (by kernel_rfl) (by kernel_rfl) (by kernel_rfl) Ext.refl (fun _ _ _ => Ext.trans) ?_
  refine absE (fun x1 hx1 => ?_)
  have hx : Ext ue x1 := by rw [hx1]; exact (Ext.refl _).drew
  replace bz := Bl.ext hx bz (Nat.succ_pos _)
  replace hp := hp.ext hx
  replace hq := hq.ext hx
  replace HE := HE.trans hx
  clear hx
  clear hx1
  repeat (first | (refine wpE_q rfl rfl (fun u hu => exec_loadO (hp.ext hu) rfl rfl) ?_; simp only [Act.put, List.setIfInBounds_toArray, List.set_cons_zero, List.set_cons_succ]) | (refine wpE_q rfl rfl (fun u hu => exec_loadO (hq.ext hu) rfl rfl) ?_; simp only [Act.put, List.setIfInBounds_toArray, List.set_cons_zero, List.set_cons_succ]) | (refine wpE_q (v := ?_) rfl rfl (fun u hu => ?_) ?_; rotate_left 1; (focus (have kz := Bl.ext hu bz (Nat.succ_pos _); go_simp; (try rfl))); simp only [Act.put, List.setIfInBounds_toArray, List.set_cons_zero, List.set_cons_succ]) | (refine wpE_qs rfl rfl ?_; simp only [Act.put, List.setIfInBounds_toArray, List.set_cons_zero, List.set_cons_succ]))
  refine wpE_l rfl rfl (fun K hK => ?_)
  go_simp
  refine (HE'.out _).mono ?_
  rintro e u2 ⟨rfl, hx⟩
  refine hK.out _ _ hx ?_
  clear hK K
  try simp only [Act.put, List.setIfInBounds_toArray, List.set_cons_zero, List.set_cons_succ]
  replace bz := Bl.ext hx bz (Nat.succ_pos _)
  replace hp := hp.ext hx
  replace hq := hq.ext hx
  replace HE := HE.trans hx
  clear hx
  refine wpE_l rfl rfl (fun K hK => ?_)
  go_simp
  refine (HS.out _).mono ?_
  rintro e u3 ⟨rfl, hx⟩
  refine hK.out _ _ hx ?_
  clear hK K
  try simp only [Act.put, List.setIfInBounds_toArray, List.set_cons_zero, List.set_cons_succ]
  replace bz := Bl.ext hx bz (Nat.succ_pos _)
  replace hp := hp.ext hx
  replace hq := hq.ext hx
  replace HE := HE.trans hx
  clear hx
  repeat (first | (refine wpE_q rfl rfl (fun u hu => exec_loadO (hp.ext hu) rfl rfl) ?_; simp only [Act.put, List.setIfInBounds_toArray, List.set_cons_zero, List.set_cons_succ]) | (refine wpE_q rfl rfl (fun u hu => exec_loadO (hq.ext hu) rfl rfl) ?_; simp only [Act.put, List.setIfInBounds_toArray, List.set_cons_zero, List.set_cons_succ]) | (refine wpE_q (v := ?_) rfl rfl (fun u hu => ?_) ?_; rotate_left 1; (focus (have kz := Bl.ext hu bz (Nat.succ_pos _); go_simp; (try rfl))); simp only [Act.put, List.setIfInBounds_toArray, List.set_cons_zero, List.set_cons_succ]) | (refine wpE_qs rfl rfl ?_; simp only [Act.put, List.setIfInBounds_toArray, List.set_cons_zero, List.set_cons_succ]))
  refine wpE_l rfl rfl (fun K hK => ?_)
  go_simp
  refine (HM.out _).mono ?_
  rintro e u4 ⟨rfl, hx⟩
  refine hK.out _ _ hx ?_
  clear hK K
  try simp only [Act.put, List.setIfInBounds_toArray, List.set_cons_zero, List.set_cons_succ]
  replace bz := Bl.ext hx bz (Nat.succ_pos _)
  replace hp := hp.ext hx
  replace hq := hq.ext hx
  replace HE := HE.trans hx
  clear hx
  repeat (first | (refine wpE_q rfl rfl (fun u hu => exec_loadO (hp.ext hu) rfl rfl) ?_; simp only [Act.put, List.setIfInBounds_toArray, List.set_cons_zero, List.set_cons_succ]) | (refine wpE_q rfl rfl (fun u hu => exec_loadO (hq.ext hu) rfl rfl) ?_; simp only [Act.put, List.setIfInBounds_toArray, List.set_cons_zero, List.set_cons_succ]) | (refine wpE_q (v := ?_) rfl rfl (fun u hu => ?_) ?_; rotate_left 1; (focus (have kz := Bl.ext hu bz (Nat.succ_pos _); go_simp; (try rfl))); simp only [Act.put, List.setIfInBounds_toArray, List.set_cons_zero, List.set_cons_succ]) | (refine wpE_qs rfl rfl ?_; simp only [Act.put, List.setIfInBounds_toArray, List.set_cons_zero, List.set_cons_succ]))
  refine wpE_ls (Ext.refl _) rfl rfl ?_
  simp only [Act.put, List.setIfInBounds_toArray, List.set_cons_zero, List.set_cons_succ]
  repeat (first | (refine wpE_q rfl rfl (fun u hu => exec_loadO (hp.ext hu) rfl rfl) ?_; simp only [Act.put, List.setIfInBounds_toArray, List.set_cons_zero, List.set_cons_succ]) | (refine wpE_q rfl rfl (fun u hu => exec_loadO (hq.ext hu) rfl rfl) ?_; simp only [Act.put, List.setIfInBounds_toArray, List.set_cons_zero, List.set_cons_succ]) | (refine wpE_q (v := ?_) rfl rfl (fun u hu => ?_) ?_; rotate_left 1; (focus (have kz := Bl.ext hu bz (Nat.succ_pos _); go_simp; (try rfl))); simp only [Act.put, List.setIfInBounds_toArray, List.set_cons_zero, List.set_cons_succ]) | (refine wpE_qs rfl rfl ?_; simp only [Act.put, List.setIfInBounds_toArray, List.set_cons_zero, List.set_cons_succ]))
  refine wpE_ls (Ext.refl _) rfl rfl ?_
  simp only [Act.put, List.setIfInBounds_toArray, List.set_cons_zero, List.set_cons_succ]
  refine wpE_ls (Ext.refl _) rfl rfl ?_
  simp only [Act.put, List.setIfInBounds_toArray, List.set_cons_zero, List.set_cons_succ]
  repeat (first | (refine wpE_q rfl rfl (fun u hu => exec_loadO (hp.ext hu) rfl rfl) ?_; simp only [Act.put, List.setIfInBounds_toArray, List.set_cons_zero, List.set_cons_succ]) | (refine wpE_q rfl rfl (fun u hu => exec_loadO (hq.ext hu) rfl rfl) ?_; simp only [Act.put, List.setIfInBounds_toArray, List.set_cons_zero, List.set_cons_succ]) | (refine wpE_q (v := ?_) rfl rfl (fun u hu => ?_) ?_; rotate_left 1; (focus (have kz := Bl.ext hu bz (Nat.succ_pos _); go_simp; (try rfl))); simp only [Act.put, List.setIfInBounds_toArray, List.set_cons_zero, List.set_cons_succ]) | (refine wpE_qs rfl rfl ?_; simp only [Act.put, List.setIfInBounds_toArray, List.set_cons_zero, List.set_cons_succ]))
  refine wpE_ls (Ext.refl _) rfl rfl ?_
  simp only [Act.put, List.setIfInBounds_toArray, List.set_cons_zero, List.set_cons_succ]
  refine wpE_ls (Ext.refl _) rfl rfl ?_
  simp only [Act.put, List.setIfInBounds_toArray, List.set_cons_zero, List.set_cons_succ]
  repeat (first | (refine wpE_q rfl rfl (fun u hu => exec_loadO (hp.ext hu) rfl rfl) ?_; simp only [Act.put, List.setIfInBounds_toArray, List.set_cons_zero, List.set_cons_succ]) | (refine wpE_q rfl rfl (fun u hu => exec_loadO (hq.ext hu) rfl rfl) ?_; simp only [Act.put, List.setIfInBounds_toArray, List.set_cons_zero, List.set_cons_succ]) | (refine wpE_q (v := ?_) rfl rfl (fun u hu => ?_) ?_; rotate_left 1; (focus (have kz := Bl.ext hu bz (Nat.succ_pos _); go_simp; (try rfl))); simp only [Act.put, List.setIfInBounds_toArray, List.set_cons_zero, List.set_cons_succ]) | (refine wpE_qs rfl rfl ?_; simp only [Act.put, List.setIfInBounds_toArray, List.set_cons_zero, List.set_cons_succ]))
  refine wpE_l rfl rfl (fun K hK => ?_)
  go_simp
  refine (tint_lives _).mono ?_
  rintro e u9 ⟨rfl, hx⟩
  refine hK.out _ _ hx ?_
  clear hK K
  try simp only [Act.put, List.setIfInBounds_toArray, List.set_cons_zero, List.set_cons_succ]
  replace bz := Bl.ext hx bz (Nat.succ_pos _)
  replace hp := hp.ext hx
  replace hq := hq.ext hx
  replace HE := HE.trans hx
  clear hx
  repeat (first | (refine wpE_q rfl rfl (fun u hu => exec_loadO (hp.ext hu) rfl rfl) ?_; simp only [Act.put, List.setIfInBounds_toArray, List.set_cons_zero, List.set_cons_succ]) | (refine wpE_q rfl rfl (fun u hu => exec_loadO (hq.ext hu) rfl rfl) ?_; simp only [Act.put, List.setIfInBounds_toArray, List.set_cons_zero, List.set_cons_succ]) | (refine wpE_q (v := ?_) rfl rfl (fun u hu => ?_) ?_; rotate_left 1; (focus (have kz := Bl.ext hu bz (Nat.succ_pos _); go_simp; (try rfl))); simp only [Act.put, List.setIfInBounds_toArray, List.set_cons_zero, List.set_cons_succ]) | (refine wpE_qs rfl rfl ?_; simp only [Act.put, List.setIfInBounds_toArray, List.set_cons_zero, List.set_cons_succ]))
  refine wpE_done ?_
  go_wp2_with fail
  go_ret
  exact ⟨rfl, HE⟩

set_option maxRecDepth 100000 in
set_option maxHeartbeats 4000000 in
theorem used_yes (pc q : Array Value) (ax ay : Int) (w : World) (hpc : pc.size = 22) (hqs : q.size = 22) (hq1 : ∀ v ∈ q.toList, v.oneCell' = true)
    (hU : ∀ u : World, Calls Try.prog 9 #[.agg pc] u fun e w' => e = .returned (.agg q) ∧ Ext u w') (hE : ∀ u : World, Calls Try.prog 11 #[.agg pc] u fun e w' => e = .returned (.agg q) ∧ Ext u w')
    (hS : ∀ u : World, Calls Try.prog 10 #[.agg q, .agg q] u fun e w' => e = .returned (.bool true) ∧ Ext u w') (c0 c1 c2 c3 : Int) (hM : ∀ u : World, Calls Try.prog 12 #[.agg pc] u fun e w' => e = .returned (.bool true) ∧ Ext u w')
    (hN : ∀ u : World, Calls Try.prog 6 #[.agg q] u fun e w' => e = .returned (.bool true) ∧ Ext u w') (hA : ∀ u : World, Calls Try.prog 13 #[.agg q, .agg #[.int .i64 ax, .int .i64 ay]] u fun e w' => e = .returned (.agg #[.int .u8 c0, .int .u8 c1, .int .u8 c2, .int .u8 c3]) ∧ Ext u w') (hB : ∀ u : World, Calls Try.prog 13 #[.agg pc, .agg #[.int .i64 ax, .int .i64 ay]] u fun e w' => e = .returned (.agg #[.int .u8 c0, .int .u8 c1, .int .u8 c2, .int .u8 c3]) ∧ Ext u w') (hV : ∀ u : World, Calls Try.prog 9 #[.agg q] u fun e w' => e = .returned (.agg q) ∧ Ext u w') :
    Calls Try.prog 4 #[.agg pc, .agg #[.int .i64 ax, .int .i64 ay]] w fun e w' => e = .returned (.bool true) ∧ Ext w w' := by
  have HU := hidP hU; have HE' := hidP hE; have HS := hidP hS; have HM := hidP hM
  clear hU hE hS hM
  have HN := hidP hN; have HA := hidP hA; have HB := hidP hB; have HV := hidP hV
  clear hN hA hB hV
  have H1 := hidP hq1; have HP := hidP hpc; have HQ := hidP hqs
  clear hq1 hpc hqs
  go_enter Try.func4, Try.ntmps4
  go_upto_region 1 with fail
  refine absW (fun x1 hx1 => ?_)
  have hx : Ext w x1 := by rw [hx1]; exact (((Ext.refl _).alloc _).alloc _)
  have hp : BlO x1 w.heap.size pc := by rw [hx1]; exact ⟨(Bl.new rfl).alloc (by rw [HP.out]; decide), HP.out⟩
  have bz : Bl x1 (w.heap.size + 1) #[.int .i64 ax, .int .i64 ay] := by rw [hx1]; exact Bl.new (by simp)
  have HE := hx
  clear hx hx1
  go_wp2_with (first | (refine wpList_execW rfl (exec_loadO hp rfl rfl) ?_))
  refine (HU.out _).mono ?_
  rintro e u1 ⟨rfl, hx⟩
  replace bz := Bl.ext hx bz (Nat.succ_pos _)
  replace hp := hp.ext hx
  replace HE := HE.trans hx
  clear hx
  go_upto_region 2 with (first | (refine wpList_storeB (Bl.new (by simp)) (Fz.new (by simp)) rfl rfl rfl rfl rfl HQ.out H1.out rfl ?_; intro ue bq fq hbu hex))
  have hxe : Ext u1 ue := hex u1 ((Ext.refl _).alloc _) (Nat.le_refl _)
  have hq : BlO ue u1.heap.size q := ⟨bq, HQ.out⟩
  clear hbu hex fq bq
  replace bz := Bl.ext hxe bz (Nat.succ_pos _)
  replace hp := hp.ext hxe
  replace HE := HE.trans hxe
  clear hxe
  refine wp_region_plan (R := Ext) (.q 0 (.q 1 (.l 2 (.l 3 (.q 4 (.q 5 (.l 6 (.q 7 (.q 8 (.q 9 (.l 10 (.q 11 (.q 12 (.q 13 (.q 15 (.q 16 (.l 14 (.l 17 (.q 18 (.q 19 (.q 20 (.q 21 (.q 23 (.l 22 (.l 24 (.q 25 (.q 26 (.q 27 (.q 28 (.l 29 (.q 30 (.q 31 .done)))))))))))))))))))))))))))))))) (by kernel_rfl) (by kernel_rfl) (by kernel_rfl) (by kernel_rfl) Ext.refl (fun _ _ _ => Ext.trans) ?_
  refine absE (fun x1 hx1 => ?_)
  have hx : Ext ue x1 := by rw [hx1]; exact (Ext.refl _).drew
  replace bz := Bl.ext hx bz (Nat.succ_pos _)
  replace hp := hp.ext hx
  replace hq := hq.ext hx
  replace HE := HE.trans hx
  clear hx
  clear hx1
  repeat (first | (refine wpE_q rfl rfl (fun u hu => exec_loadO (hp.ext hu) rfl rfl) ?_; simp only [Act.put, List.setIfInBounds_toArray, List.set_cons_zero, List.set_cons_succ]) | (refine wpE_q rfl rfl (fun u hu => exec_loadO (hq.ext hu) rfl rfl) ?_; simp only [Act.put, List.setIfInBounds_toArray, List.set_cons_zero, List.set_cons_succ]) | (refine wpE_q (v := ?_) rfl rfl (fun u hu => ?_) ?_; rotate_left 1; (focus (have kz := Bl.ext hu bz (Nat.succ_pos _); go_simp; (try rfl))); simp only [Act.put, List.setIfInBounds_toArray, List.set_cons_zero, List.set_cons_succ]))
  refine wpE_l rfl rfl (fun K hK => ?_)
  go_simp
  refine (HE'.out _).mono ?_
  rintro e u2 ⟨rfl, hx⟩
  refine hK.out _ _ hx ?_
  clear hK K
  try simp only [Act.put, List.setIfInBounds_toArray, List.set_cons_zero, List.set_cons_succ]
  replace bz := Bl.ext hx bz (Nat.succ_pos _)
  replace hp := hp.ext hx
  replace hq := hq.ext hx
  replace HE := HE.trans hx
  clear hx
  refine wpE_l rfl rfl (fun K hK => ?_)
  go_simp
  refine (HS.out _).mono ?_
  rintro e u3 ⟨rfl, hx⟩
  refine hK.out _ _ hx ?_
  clear hK K
  try simp only [Act.put, List.setIfInBounds_toArray, List.set_cons_zero, List.set_cons_succ]
  replace bz := Bl.ext hx bz (Nat.succ_pos _)
  replace hp := hp.ext hx
  replace hq := hq.ext hx
  replace HE := HE.trans hx
  clear hx
  repeat (first | (refine wpE_q rfl rfl (fun u hu => exec_loadO (hp.ext hu) rfl rfl) ?_; simp only [Act.put, List.setIfInBounds_toArray, List.set_cons_zero, List.set_cons_succ]) | (refine wpE_q rfl rfl (fun u hu => exec_loadO (hq.ext hu) rfl rfl) ?_; simp only [Act.put, List.setIfInBounds_toArray, List.set_cons_zero, List.set_cons_succ]) | (refine wpE_q (v := ?_) rfl rfl (fun u hu => ?_) ?_; rotate_left 1; (focus (have kz := Bl.ext hu bz (Nat.succ_pos _); go_simp; (try rfl))); simp only [Act.put, List.setIfInBounds_toArray, List.set_cons_zero, List.set_cons_succ]))
  refine wpE_l rfl rfl (fun K hK => ?_)
  go_simp
  refine (HM.out _).mono ?_
  rintro e u4 ⟨rfl, hx⟩
  refine hK.out _ _ hx ?_
  clear hK K
  try simp only [Act.put, List.setIfInBounds_toArray, List.set_cons_zero, List.set_cons_succ]
  replace bz := Bl.ext hx bz (Nat.succ_pos _)
  replace hp := hp.ext hx
  replace hq := hq.ext hx
  replace HE := HE.trans hx
  clear hx
  repeat (first | (refine wpE_q rfl rfl (fun u hu => exec_loadO (hp.ext hu) rfl rfl) ?_; simp only [Act.put, List.setIfInBounds_toArray, List.set_cons_zero, List.set_cons_succ]) | (refine wpE_q rfl rfl (fun u hu => exec_loadO (hq.ext hu) rfl rfl) ?_; simp only [Act.put, List.setIfInBounds_toArray, List.set_cons_zero, List.set_cons_succ]) | (refine wpE_q (v := ?_) rfl rfl (fun u hu => ?_) ?_; rotate_left 1; (focus (have kz := Bl.ext hu bz (Nat.succ_pos _); go_simp; (try rfl))); simp only [Act.put, List.setIfInBounds_toArray, List.set_cons_zero, List.set_cons_succ]))
  refine wpE_l rfl rfl (fun K hK => ?_)
  go_simp
  refine (HN.out _).mono ?_
  rintro e u5 ⟨rfl, hx⟩
  refine hK.out _ _ hx ?_
  clear hK K
  try simp only [Act.put, List.setIfInBounds_toArray, List.set_cons_zero, List.set_cons_succ]
  replace bz := Bl.ext hx bz (Nat.succ_pos _)
  replace hp := hp.ext hx
  replace hq := hq.ext hx
  replace HE := HE.trans hx
  clear hx
  repeat (first | (refine wpE_q rfl rfl (fun u hu => exec_loadO (hp.ext hu) rfl rfl) ?_; simp only [Act.put, List.setIfInBounds_toArray, List.set_cons_zero, List.set_cons_succ]) | (refine wpE_q rfl rfl (fun u hu => exec_loadO (hq.ext hu) rfl rfl) ?_; simp only [Act.put, List.setIfInBounds_toArray, List.set_cons_zero, List.set_cons_succ]) | (refine wpE_q (v := ?_) rfl rfl (fun u hu => ?_) ?_; rotate_left 1; (focus (have kz := Bl.ext hu bz (Nat.succ_pos _); go_simp; (try rfl))); simp only [Act.put, List.setIfInBounds_toArray, List.set_cons_zero, List.set_cons_succ]))
  refine wpE_l rfl rfl (fun K hK => ?_)
  go_simp
  refine (HA.out _).mono ?_
  rintro e u6 ⟨rfl, hx⟩
  refine hK.out _ _ hx ?_
  clear hK K
  try simp only [Act.put, List.setIfInBounds_toArray, List.set_cons_zero, List.set_cons_succ]
  replace bz := Bl.ext hx bz (Nat.succ_pos _)
  replace hp := hp.ext hx
  replace hq := hq.ext hx
  replace HE := HE.trans hx
  clear hx
  refine wpE_l rfl rfl (fun K hK => ?_)
  go_simp
  refine (HB.out _).mono ?_
  rintro e u7 ⟨rfl, hx⟩
  refine hK.out _ _ hx ?_
  clear hK K
  try simp only [Act.put, List.setIfInBounds_toArray, List.set_cons_zero, List.set_cons_succ]
  replace bz := Bl.ext hx bz (Nat.succ_pos _)
  replace hp := hp.ext hx
  replace hq := hq.ext hx
  replace HE := HE.trans hx
  clear hx
  repeat (first | (refine wpE_q rfl rfl (fun u hu => exec_loadO (hp.ext hu) rfl rfl) ?_; simp only [Act.put, List.setIfInBounds_toArray, List.set_cons_zero, List.set_cons_succ]) | (refine wpE_q rfl rfl (fun u hu => exec_loadO (hq.ext hu) rfl rfl) ?_; simp only [Act.put, List.setIfInBounds_toArray, List.set_cons_zero, List.set_cons_succ]) | (refine wpE_q (v := ?_) rfl rfl (fun u hu => ?_) ?_; rotate_left 1; (focus (have kz := Bl.ext hu bz (Nat.succ_pos _); go_simp; (try rfl))); simp only [Act.put, List.setIfInBounds_toArray, List.set_cons_zero, List.set_cons_succ]))
  refine wpE_l rfl rfl (fun K hK => ?_)
  go_simp
  refine (HV.out _).mono ?_
  rintro e u8 ⟨rfl, hx⟩
  refine hK.out _ _ hx ?_
  clear hK K
  try simp only [Act.put, List.setIfInBounds_toArray, List.set_cons_zero, List.set_cons_succ]
  replace bz := Bl.ext hx bz (Nat.succ_pos _)
  replace hp := hp.ext hx
  replace hq := hq.ext hx
  replace HE := HE.trans hx
  clear hx
  refine wpE_l rfl rfl (fun K hK => ?_)
  go_simp
  refine (HS.out _).mono ?_
  rintro e u10 ⟨rfl, hx⟩
  refine hK.out _ _ hx ?_
  clear hK K
  try simp only [Act.put, List.setIfInBounds_toArray, List.set_cons_zero, List.set_cons_succ]
  replace bz := Bl.ext hx bz (Nat.succ_pos _)
  replace hp := hp.ext hx
  replace hq := hq.ext hx
  replace HE := HE.trans hx
  clear hx
  repeat (first | (refine wpE_q rfl rfl (fun u hu => exec_loadO (hp.ext hu) rfl rfl) ?_; simp only [Act.put, List.setIfInBounds_toArray, List.set_cons_zero, List.set_cons_succ]) | (refine wpE_q rfl rfl (fun u hu => exec_loadO (hq.ext hu) rfl rfl) ?_; simp only [Act.put, List.setIfInBounds_toArray, List.set_cons_zero, List.set_cons_succ]) | (refine wpE_q (v := ?_) rfl rfl (fun u hu => ?_) ?_; rotate_left 1; (focus (have kz := Bl.ext hu bz (Nat.succ_pos _); go_simp; (try rfl))); simp only [Act.put, List.setIfInBounds_toArray, List.set_cons_zero, List.set_cons_succ]))
  refine wpE_l rfl rfl (fun K hK => ?_)
  go_simp
  refine (tint_lives _).mono ?_
  rintro e u9 ⟨rfl, hx⟩
  refine hK.out _ _ hx ?_
  clear hK K
  try simp only [Act.put, List.setIfInBounds_toArray, List.set_cons_zero, List.set_cons_succ]
  replace bz := Bl.ext hx bz (Nat.succ_pos _)
  replace hp := hp.ext hx
  replace hq := hq.ext hx
  replace HE := HE.trans hx
  clear hx
  repeat (first | (refine wpE_q rfl rfl (fun u hu => exec_loadO (hp.ext hu) rfl rfl) ?_; simp only [Act.put, List.setIfInBounds_toArray, List.set_cons_zero, List.set_cons_succ]) | (refine wpE_q rfl rfl (fun u hu => exec_loadO (hq.ext hu) rfl rfl) ?_; simp only [Act.put, List.setIfInBounds_toArray, List.set_cons_zero, List.set_cons_succ]) | (refine wpE_q (v := ?_) rfl rfl (fun u hu => ?_) ?_; rotate_left 1; (focus (have kz := Bl.ext hu bz (Nat.succ_pos _); go_simp; (try rfl))); simp only [Act.put, List.setIfInBounds_toArray, List.set_cons_zero, List.set_cons_succ]))
  refine wpE_done ?_
  go_wp2_with fail
  go_ret
  exact ⟨rfl, HE⟩

theorem mixr_0 (a b b' : Nat) : mixr 0 a b = mixr 0 a b' := by unfold mixr; simp
theorem wmix_0 (r0 g0 b0 a0 r1 g1 b1 a1 r1' g1' b1' a1' : Nat) : wmix 0 r0 g0 b0 a0 r1 g1 b1 a1 = wmix 0 r0 g0 b0 a0 r1' g1' b1' a1' := by
  unfold wmix
  rw [mixr_0 a0 a1 a1', mixr_0 r0 r1 r1', mixr_0 g0 g1 g1', mixr_0 b0 b1 b1']
theorem fit00 : fitP 0 0 = true := by decide
theorem mayT_1 (px py qx qy r : Int) : mayT 1 px py qx qy r = (fitP px py && fitP qx qy) := by unfold mayT; simp
theorem mayT_2 (px py qx qy r : Int) : mayT 2 px py qx qy r = (fitP px py && fitP qx qy) := by unfold mayT; simp
theorem mayT_3 (px py qx qy r : Int) : mayT 3 px py qx qy r = (fitP px py && fitP qx qy && decide (1 ≤ r ∧ r ≤ 8388607)) := by unfold mayT; simp [Bool.and_assoc]
theorem mayT_0 {k : Int} (px py qx qy r : Int) (h1 : ¬ k = 1) (h2 : ¬ k = 2) (h3 : ¬ k = 3) : mayT k px py qx qy r = false := by unfold mayT; simp [h1, h2, h3]

theorem at_same_1 {r0 g0 b0 a0 r1 g1 b1 a1 : Nat} {px py qx qy r ax ay : Int} (h : mayT 1 px py qx qy r = true) : atF 1 r0 g0 b0 a0 0 0 0 0 0 0 0 0 0 ax ay = atF 1 r0 g0 b0 a0 r1 g1 b1 a1 px py qx qy r ax ay := by
  have hm : mayT 1 0 0 0 0 0 = true := by decide
  unfold atF
  by_cases hf : fitP ax ay = true
  · rw [if_pos ⟨hm, hf⟩, if_pos ⟨h, hf⟩]
    have e1 : stepF 1 0 0 0 0 0 ax ay = 0 := by unfold stepF; split <;> rfl
    have e2 : stepF 1 px py qx qy r ax ay = 0 := by unfold stepF; split <;> rfl
    rw [e1, e2]
    exact wmix_0 _ _ _ _ _ _ _ _ _ _ _ _
  · rw [if_neg (fun x => hf x.2), if_neg (fun x => hf x.2)]
theorem at_same_2 {r0 g0 b0 a0 r1 g1 b1 a1 : Nat} {px py qx qy r ax ay : Int} (h : mayT 2 px py qx qy r = true) : atF 2 r0 g0 b0 a0 r1 g1 b1 a1 px py qx qy 0 ax ay = atF 2 r0 g0 b0 a0 r1 g1 b1 a1 px py qx qy r ax ay := by
  have e : mayT 2 px py qx qy 0 = mayT 2 px py qx qy r := by rw [mayT_2, mayT_2]
  unfold atF stepF
  rw [e]
  rfl
theorem at_same_3 {r0 g0 b0 a0 r1 g1 b1 a1 : Nat} {px py qx qy r ax ay : Int} (h : mayT 3 px py qx qy r = true) : atF 3 r0 g0 b0 a0 r1 g1 b1 a1 px py 0 0 r ax ay = atF 3 r0 g0 b0 a0 r1 g1 b1 a1 px py qx qy r ax ay := by
  have e : mayT 3 px py 0 0 r = true := by
    rw [mayT_3] at h ⊢
    simp only [Bool.and_eq_true] at h
    rw [h.1.1, h.2, fit00]; rfl
  unfold atF stepF
  rw [e, h]
  rfl

set_option maxRecDepth 100000 in
set_option maxHeartbeats 4000000 in
theorem used_1 (r0 g0 b0 a0 r1 g1 b1 a1 : Nat) (px py qx qy r ux uy vx vy : Int) (x y : Int) (a : Option Addr) (n c : Nat) (s : Bool) (ax ay : Int) (w : World) (h0 : Col8 r0 g0 b0 a0) (h1 : Col8 r1 g1 b1 a1) : Calls Try.prog 4 #[.agg #[.int .i64 1, .int .u8 (r0 : Int), .int .u8 (g0 : Int), .int .u8 (b0 : Int), .int .u8 (a0 : Int), .int .u8 (r1 : Int), .int .u8 (g1 : Int), .int .u8 (b1 : Int), .int .u8 (a1 : Int), .int .i64 px, .int .i64 py, .int .i64 qx, .int .i64 qy, .int .i64 r, .int .i64 ux, .int .i64 uy, .int .i64 vx, .int .i64 vy, .int .i64 x, .int .i64 y, .slice a n c, .bool s], .agg #[.int .i64 ax, .int .i64 ay]] w fun e w' => e = .returned (.bool true) ∧ Ext w w' := by
  have hN := fun u => t_May 1 r0 g0 b0 a0 0 0 0 0 0 0 0 0 0 0 0 0 0 0 0 none 0 0 false u
  have hM := fun u => e_May 1 r0 g0 b0 a0 r1 g1 b1 a1 px py qx qy r ux uy vx vy x y a n c s u
  have hA := fun u => t_At 1 r0 g0 b0 a0 0 0 0 0 0 0 0 0 0 0 0 0 0 0 0 none 0 0 false ax ay u h0 ⟨by omega, by omega, by omega, by omega⟩
  have hB := fun u => t_At 1 r0 g0 b0 a0 r1 g1 b1 a1 px py qx qy r ux uy vx vy x y a n c s ax ay u h0 h1
  cases hm : mayT 1 px py qx qy r
  · rw [hm] at hM
    exact used_no _ _ ax ay w rfl rfl (List.all_eq_true.1 (by rfl)) (fun u => t_Used_1 r0 g0 b0 a0 r1 g1 b1 a1 px py qx qy r ux uy vx vy x y a n c s u) (fun u => e_Used_1 r0 g0 b0 a0 r1 g1 b1 a1 px py qx qy r ux uy vx vy x y a n c s u) (fun u => e_SameU 1 r0 g0 b0 a0 0 0 0 0 0 0 0 0 0 u) hM
  · rw [hm] at hM
    rw [show mayT 1 0 0 0 0 0 = true from (by decide)] at hN
    rw [at_same_1 hm] at hA
    exact used_yes _ _ ax ay w rfl rfl (List.all_eq_true.1 (by rfl)) (fun u => t_Used_1 r0 g0 b0 a0 r1 g1 b1 a1 px py qx qy r ux uy vx vy x y a n c s u) (fun u => e_Used_1 r0 g0 b0 a0 r1 g1 b1 a1 px py qx qy r ux uy vx vy x y a n c s u) (fun u => e_SameU 1 r0 g0 b0 a0 0 0 0 0 0 0 0 0 0 u) _ _ _ _ hM hN hA hB (fun u => t_Used_1 r0 g0 b0 a0 0 0 0 0 0 0 0 0 0 0 0 0 0 0 0 none 0 0 false u)

set_option maxRecDepth 100000 in
set_option maxHeartbeats 4000000 in
theorem used_2 (r0 g0 b0 a0 r1 g1 b1 a1 : Nat) (px py qx qy r ux uy vx vy : Int) (x y : Int) (a : Option Addr) (n c : Nat) (s : Bool) (ax ay : Int) (w : World) (h0 : Col8 r0 g0 b0 a0) (h1 : Col8 r1 g1 b1 a1) : Calls Try.prog 4 #[.agg #[.int .i64 2, .int .u8 (r0 : Int), .int .u8 (g0 : Int), .int .u8 (b0 : Int), .int .u8 (a0 : Int), .int .u8 (r1 : Int), .int .u8 (g1 : Int), .int .u8 (b1 : Int), .int .u8 (a1 : Int), .int .i64 px, .int .i64 py, .int .i64 qx, .int .i64 qy, .int .i64 r, .int .i64 ux, .int .i64 uy, .int .i64 vx, .int .i64 vy, .int .i64 x, .int .i64 y, .slice a n c, .bool s], .agg #[.int .i64 ax, .int .i64 ay]] w fun e w' => e = .returned (.bool true) ∧ Ext w w' := by
  have hN := fun u => t_May 2 r0 g0 b0 a0 r1 g1 b1 a1 px py qx qy 0 0 0 0 0 0 0 none 0 0 false u
  have hM := fun u => e_May 2 r0 g0 b0 a0 r1 g1 b1 a1 px py qx qy r ux uy vx vy x y a n c s u
  have hA := fun u => t_At 2 r0 g0 b0 a0 r1 g1 b1 a1 px py qx qy 0 0 0 0 0 0 0 none 0 0 false ax ay u h0 h1
  have hB := fun u => t_At 2 r0 g0 b0 a0 r1 g1 b1 a1 px py qx qy r ux uy vx vy x y a n c s ax ay u h0 h1
  cases hm : mayT 2 px py qx qy r
  · rw [hm] at hM
    exact used_no _ _ ax ay w rfl rfl (List.all_eq_true.1 (by rfl)) (fun u => t_Used_2 r0 g0 b0 a0 r1 g1 b1 a1 px py qx qy r ux uy vx vy x y a n c s u) (fun u => e_Used_2 r0 g0 b0 a0 r1 g1 b1 a1 px py qx qy r ux uy vx vy x y a n c s u) (fun u => e_SameU 2 r0 g0 b0 a0 r1 g1 b1 a1 px py qx qy 0 u) hM
  · rw [hm] at hM
    rw [show mayT 2 px py qx qy 0 = true from (by rw [mayT_2] at hm ⊢; exact hm)] at hN
    rw [at_same_2 hm] at hA
    exact used_yes _ _ ax ay w rfl rfl (List.all_eq_true.1 (by rfl)) (fun u => t_Used_2 r0 g0 b0 a0 r1 g1 b1 a1 px py qx qy r ux uy vx vy x y a n c s u) (fun u => e_Used_2 r0 g0 b0 a0 r1 g1 b1 a1 px py qx qy r ux uy vx vy x y a n c s u) (fun u => e_SameU 2 r0 g0 b0 a0 r1 g1 b1 a1 px py qx qy 0 u) _ _ _ _ hM hN hA hB (fun u => t_Used_2 r0 g0 b0 a0 r1 g1 b1 a1 px py qx qy 0 0 0 0 0 0 0 none 0 0 false u)

set_option maxRecDepth 100000 in
set_option maxHeartbeats 4000000 in
theorem used_3 (r0 g0 b0 a0 r1 g1 b1 a1 : Nat) (px py qx qy r ux uy vx vy : Int) (x y : Int) (a : Option Addr) (n c : Nat) (s : Bool) (ax ay : Int) (w : World) (h0 : Col8 r0 g0 b0 a0) (h1 : Col8 r1 g1 b1 a1) : Calls Try.prog 4 #[.agg #[.int .i64 3, .int .u8 (r0 : Int), .int .u8 (g0 : Int), .int .u8 (b0 : Int), .int .u8 (a0 : Int), .int .u8 (r1 : Int), .int .u8 (g1 : Int), .int .u8 (b1 : Int), .int .u8 (a1 : Int), .int .i64 px, .int .i64 py, .int .i64 qx, .int .i64 qy, .int .i64 r, .int .i64 ux, .int .i64 uy, .int .i64 vx, .int .i64 vy, .int .i64 x, .int .i64 y, .slice a n c, .bool s], .agg #[.int .i64 ax, .int .i64 ay]] w fun e w' => e = .returned (.bool true) ∧ Ext w w' := by
  have hN := fun u => t_May 3 r0 g0 b0 a0 r1 g1 b1 a1 px py 0 0 r 0 0 0 0 0 0 none 0 0 false u
  have hM := fun u => e_May 3 r0 g0 b0 a0 r1 g1 b1 a1 px py qx qy r ux uy vx vy x y a n c s u
  have hA := fun u => t_At 3 r0 g0 b0 a0 r1 g1 b1 a1 px py 0 0 r 0 0 0 0 0 0 none 0 0 false ax ay u h0 h1
  have hB := fun u => t_At 3 r0 g0 b0 a0 r1 g1 b1 a1 px py qx qy r ux uy vx vy x y a n c s ax ay u h0 h1
  cases hm : mayT 3 px py qx qy r
  · rw [hm] at hM
    exact used_no _ _ ax ay w rfl rfl (List.all_eq_true.1 (by rfl)) (fun u => t_Used_3 r0 g0 b0 a0 r1 g1 b1 a1 px py qx qy r ux uy vx vy x y a n c s u) (fun u => e_Used_3 r0 g0 b0 a0 r1 g1 b1 a1 px py qx qy r ux uy vx vy x y a n c s u) (fun u => e_SameU 3 r0 g0 b0 a0 r1 g1 b1 a1 px py 0 0 r u) hM
  · rw [hm] at hM
    rw [show mayT 3 px py 0 0 r = true from (by rw [mayT_3] at hm ⊢; simp only [Bool.and_eq_true] at hm; rw [hm.1.1, hm.2, fit00]; rfl)] at hN
    rw [at_same_3 hm] at hA
    exact used_yes _ _ ax ay w rfl rfl (List.all_eq_true.1 (by rfl)) (fun u => t_Used_3 r0 g0 b0 a0 r1 g1 b1 a1 px py qx qy r ux uy vx vy x y a n c s u) (fun u => e_Used_3 r0 g0 b0 a0 r1 g1 b1 a1 px py qx qy r ux uy vx vy x y a n c s u) (fun u => e_SameU 3 r0 g0 b0 a0 r1 g1 b1 a1 px py 0 0 r u) _ _ _ _ hM hN hA hB (fun u => t_Used_3 r0 g0 b0 a0 r1 g1 b1 a1 px py 0 0 r 0 0 0 0 0 0 none 0 0 false u)

set_option maxRecDepth 100000 in
set_option maxHeartbeats 4000000 in
theorem tintUsed_any (k : Int) (r0 g0 b0 a0 r1 g1 b1 a1 : Nat) (px py qx qy r ux uy vx vy : Int) (x y : Int) (a : Option Addr) (n c : Nat) (s : Bool) (ax ay : Int) (w : World) (h0 : Col8 r0 g0 b0 a0) (h1 : Col8 r1 g1 b1 a1) : Calls Try.prog 4 #[.agg #[.int .i64 k, .int .u8 (r0 : Int), .int .u8 (g0 : Int), .int .u8 (b0 : Int), .int .u8 (a0 : Int), .int .u8 (r1 : Int), .int .u8 (g1 : Int), .int .u8 (b1 : Int), .int .u8 (a1 : Int), .int .i64 px, .int .i64 py, .int .i64 qx, .int .i64 qy, .int .i64 r, .int .i64 ux, .int .i64 uy, .int .i64 vx, .int .i64 vy, .int .i64 x, .int .i64 y, .slice a n c, .bool s], .agg #[.int .i64 ax, .int .i64 ay]] w fun e w' => e = .returned (.bool true) ∧ Ext w w' := by
  by_cases k1 : k = 1
  · subst k1; exact used_1 r0 g0 b0 a0 r1 g1 b1 a1 px py qx qy r ux uy vx vy x y a n c s ax ay w h0 h1
  by_cases k2 : k = 2
  · subst k2; exact used_2 r0 g0 b0 a0 r1 g1 b1 a1 px py qx qy r ux uy vx vy x y a n c s ax ay w h0 h1
  by_cases k3 : k = 3
  · subst k3; exact used_3 r0 g0 b0 a0 r1 g1 b1 a1 px py qx qy r ux uy vx vy x y a n c s ax ay w h0 h1
  have hM := fun u => e_May k r0 g0 b0 a0 r1 g1 b1 a1 px py qx qy r ux uy vx vy x y a n c s u
  rw [mayT_0 _ _ _ _ _ k1 k2 k3] at hM
  exact used_no _ _ ax ay w rfl rfl (List.all_eq_true.1 (by rfl)) (fun u => t_Used_0 k r0 g0 b0 a0 r1 g1 b1 a1 px py qx qy r ux uy vx vy x y a n c s u k1 k2 k3) (fun u => e_Used_0 k r0 g0 b0 a0 r1 g1 b1 a1 px py qx qy r ux uy vx vy x y a n c s u (by omega)) (fun u => e_SameU 0 0 0 0 0 0 0 0 0 0 0 0 0 0 u) hM

end Go.Proofs.Ytmibjfkpchncgaa
