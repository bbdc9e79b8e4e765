/- critical: the code of a lock's customer. -/
import Derived.Test.YtamfbfajlfbooaaDoorNm4
import Derived.Test.YtamfbfajlfbooaaDoorNm3
import Derived.Test.YtamfbfajlfbooaaDoorNm1
import Derived.LoopTactic
set_option linter.unusedVariables false
set_option linter.unusedSimpArgs false
set_option linter.unusedSectionVars false
namespace Go.Proofs.YtamfbfajlfbooaaDoor
open Go.RowKit Qs Qh
def CritRel (W : World) (k : Nat) (v : Value) (wr : World) : Prop := ∃ u l, InsRows W wr v (spCode k) u l
theorem spCode_len : ∀ k, (spCode k).length = 20 * k
  | 0 => rfl
  | k + 1 => by simp [spCode, spRound, spCode_len k]; omega
def mid1 : List Instr := [⟨6, 2, 7, 1, []⟩, ⟨0, 3, 1, 0, []⟩, ⟨5, 4, 2, 3, []⟩, ⟨19, 4, 0, 0, []⟩]
def mid2 : List Instr := [⟨7, 7, 3, 1, []⟩, ⟨6, 2, 7, 2, []⟩, ⟨2, 2, 2, 3, []⟩, ⟨7, 7, 2, 2, []⟩]
def mid3 : List Instr := [⟨0, 4, 0, 0, []⟩, ⟨7, 7, 4, 1, []⟩]
def takeK (k : Nat) : List Instr := takeCode [107, digB k, 97] 7 0 0
def giveK : List Instr := giveCode 7 0 0
theorem takeK_len (k : Nat) : (takeK k).length = 7 := rfl
theorem spCode_succ (k : Nat) : ((((spCode k ++ takeK k) ++ mid1) ++ mid2) ++ mid3) ++ giveK = spCode (k + 1) := by
  simp only [List.append_assoc]; rfl
theorem pA (k : Nat) : ((⟨#[107]⟩ : ByteArray) ++ ⟨#[digB k]⟩ ++ ⟨#[97]⟩).data.toList = [107, digB k, 97] := by simp
theorem pB (k : Nat) : ((⟨#[107]⟩ : ByteArray) ++ ⟨#[digB k]⟩ ++ ⟨#[98]⟩).data.toList = [107, digB k, 98] := by simp
theorem lookA (k : Nat) (h : k < 10) : LookOk (⟨#[107]⟩ ++ ⟨#[digB k]⟩ ++ ⟨#[97]⟩) 7 0 0 := by
  have e := pA k
  refine ⟨?_, ?_, by decide, by decide, by decide, by decide, by decide, by decide, by decide, by decide⟩
  · rw [e]
    rcases (by omega : k = 0 ∨ k = 1 ∨ k = 2 ∨ k = 3 ∨ k = 4 ∨ k = 5 ∨ k = 6 ∨ k = 7 ∨ k = 8 ∨ k = 9) with rfl | rfl | rfl | rfl | rfl | rfl | rfl | rfl | rfl | rfl <;> decide
  · rw [← bytes_len, e]; simp
theorem lookB (k : Nat) (h : k < 10) : LookOk (⟨#[107]⟩ ++ ⟨#[digB k]⟩ ++ ⟨#[98]⟩) 7 0 0 := by
  have e := pB k
  refine ⟨?_, ?_, by decide, by decide, by decide, by decide, by decide, by decide, by decide, by decide⟩
  · rw [e]
    rcases (by omega : k = 0 ∨ k = 1 ∨ k = 2 ∨ k = 3 ∨ k = 4 ∨ k = 5 ∨ k = 6 ∨ k = 7 ∨ k = 8 ∨ k = 9) with rfl | rfl | rfl | rfl | rfl | rfl | rfl | rfl | rfl | rfl <;> decide
  · rw [← bytes_len, e]; simp
theorem len_ok {n m : Nat} (h : n ≤ 1000) (hm : m ≤ 1000) : n + m ≤ maxLen := by unfold maxLen; omega
theorem len_ok2 {n m : Nat} (h : n ≤ 1000) (hm : m ≤ 1000) : (n + m) * 56 ≤ 140737488355328 := by omega
theorem len0 {k : Nat} (h : k < 10) : (spCode k).length ≤ 1000 := by rw [spCode_len]; omega
theorem len1 {k : Nat} (h : k < 10) : (spCode k ++ takeK k).length ≤ 1000 := by rw [List.length_append, spCode_len, takeK_len]; omega
theorem len2 {k : Nat} (h : k < 10) : ((spCode k ++ takeK k) ++ mid1).length ≤ 1000 := by rw [List.length_append, List.length_append, spCode_len, takeK_len, show mid1.length = 4 from rfl]; omega
theorem len3 {k : Nat} (h : k < 10) : (((spCode k ++ takeK k) ++ mid1) ++ mid2).length ≤ 1000 := by rw [List.length_append, List.length_append, List.length_append, spCode_len, takeK_len, show mid1.length = 4 from rfl, show mid2.length = 4 from rfl]; omega
theorem len4 {k : Nat} (h : k < 10) : ((((spCode k ++ takeK k) ++ mid1) ++ mid2) ++ mid3).length ≤ 1000 := by rw [List.length_append, List.length_append, List.length_append, List.length_append, spCode_len, takeK_len, show mid1.length = 4 from rfl, show mid2.length = 4 from rfl, show mid3.length = 2 from rfl]; omega
set_option maxHeartbeats 4000000 in
theorem critical_any (times : Nat) (w : World) (ht : times ≤ 3) :
    Calls Tryd.prog 21 #[.int .i64 times] w fun e w' => ∃ v, e = .returned (.tuple #[v, .bool true]) ∧ Made (spCode times) w v w' := by
  obtain ⟨i0, hi, hz0, hz1, hz2⟩ := info_parts insInfo
  go_enter Tryd.func21, Tryd.ntmps21
  go_wp2
  go_loopw [4, 5, 6, 7, 8, 9, 10] (fun v i _ _ _ _ _ wr => ∃ k : Nat, k ≤ times ∧ i = .int .i64 k ∧ CritRel w k v wr) (fun _ i _ _ _ _ _ _ => times - (intOf i).toNat)
  case atStart => exact ⟨0, Nat.zero_le _, rfl, _, _, InsRows.start w⟩
  case round =>
    rename_i wr
    obtain ⟨k, hk, rfl, u0, l0, R⟩ := hrel
    have HR := Lib.hid R
    clear R
    by_cases hlt : k < times
    · have hd : decide ((k : Int) < (times : Int)) = true := by simp; omega
      have hk10 : k < 10 := by omega
      go_wp2_with (go_at_call 84; refine (decimal_digit k _ hk10).mono ?_; rintro e w1 ⟨rfl, hm1⟩; have R1 := HR.out.quiet hm1; have HR1 := Lib.hid R1; clear R1 hm1)
      have hta := take_ok _ 7 0 0 w1 (lookA k hk10)
      rw [pA] at hta
      refine hta.mono ?_
      rintro e w2 ⟨va, rfl, hma⟩
      have R2 := HR1.out.made hma
      obtain ⟨ga, ca, rfl, hsA⟩ := InsRow.src hma.1 (by simp [takeCode])
      have HR2 := Lib.hid R2
      have HsA := Lib.hid hsA
      clear hta hma R2 hsA
      go_wp2_with fail
      refine (give_ok _ 7 0 0 w2 (lookB k hk10)).mono ?_
      rintro e w3 ⟨vb, rfl, hmb⟩
      have R3 := HR2.out.made hmb
      have hsA3 : ∀ j u, (flat insV 0 (takeK k))[j]? = some u → w3.cell? ((⟨ga, 0, none⟩ : Addr).add j) = some u := fun j u hj => (Mod.below hmb.2.1).cell (HsA.out j u hj) (fun e => e)
      obtain ⟨gb, cb, rfl, hsB⟩ := InsRow.src hmb.1 (by simp [giveCode])
      have HR3 := Lib.hid R3
      have HsA3 := Lib.hid hsA3
      clear hmb R3 hsA3 hsB HsA
      go_wp2_with (first
        | (at_builtin; refine wpList_append_mine _ rfl (.tmp 37) (.tmp 38) 28 rfl 124 i0 (.agg #[.string ⟨#[]⟩, .int .i64 0, .int .i64 0, .int .i64 0, .string ⟨#[]⟩]) 5 56 Tryd.underlying28 hi hz0 hz1 hz2 rfl (by decide) _ _ (flat insV 0 (spCode k)) rfl (HR3.out.row) ⟨ga, 0, none⟩ 7 ca (flat insV 0 (takeK k)) rfl rfl (HsA3.out) (insV_one _ _) (len_ok (len0 hk10) (by decide)) (len_ok2 (len0 hk10) (by decide)) ?_; intro v4 w4 hown4 hgr4 hfr4 hz4; have R4 := HR3.out.append (x := takeK k) (Mod.refl _ _) hown4 hgr4 hfr4; have HR4 := Lib.hid R4; clear R4 hown4 hgr4 hfr4 hz4)
        | (at_builtin; refine wpList_append_mine _ rfl (.tmp 40) (.tmp 45) 28 rfl 124 i0 (.agg #[.string ⟨#[]⟩, .int .i64 0, .int .i64 0, .int .i64 0, .string ⟨#[]⟩]) 5 56 Tryd.underlying28 hi hz0 hz1 hz2 rfl (by decide) _ _ (flat insV 0 (spCode k ++ takeK k)) rfl (World.ownsRow.alloc HR4.out.row _) ⟨w4.heap.size, 0, none⟩ 4 4 (flat insV 0 (mid1)) rfl rfl (new_cells w4 (flat insV 0 mid1) _) (insV_one _ _) (len_ok (len1 hk10) (by decide)) (len_ok2 (len1 hk10) (by decide)) ?_; intro v5 w5 hown5 hgr5 hfr5 hz5; have R5 := HR4.out.append (x := mid1) ((Mod.refl _ _).alloc _) hown5 hgr5 hfr5; have HR5 := Lib.hid R5; clear R5 hown5 hgr5 hfr5 hz5)
        | (at_builtin; refine wpList_append_mine _ rfl (.tmp 47) (.tmp 52) 28 rfl 124 i0 (.agg #[.string ⟨#[]⟩, .int .i64 0, .int .i64 0, .int .i64 0, .string ⟨#[]⟩]) 5 56 Tryd.underlying28 hi hz0 hz1 hz2 rfl (by decide) _ _ (flat insV 0 ((spCode k ++ takeK k) ++ mid1)) rfl (World.ownsRow.alloc HR5.out.row _) ⟨w5.heap.size, 0, none⟩ 4 4 (flat insV 0 (mid2)) rfl rfl (new_cells w5 (flat insV 0 mid2) _) (insV_one _ _) (len_ok (len2 hk10) (by decide)) (len_ok2 (len2 hk10) (by decide)) ?_; intro v6 w6 hown6 hgr6 hfr6 hz6; have R6 := HR5.out.append (x := mid2) ((Mod.refl _ _).alloc _) hown6 hgr6 hfr6; have HR6 := Lib.hid R6; clear R6 hown6 hgr6 hfr6 hz6)
        | (at_builtin; refine wpList_append_mine _ rfl (.tmp 54) (.tmp 57) 28 rfl 124 i0 (.agg #[.string ⟨#[]⟩, .int .i64 0, .int .i64 0, .int .i64 0, .string ⟨#[]⟩]) 5 56 Tryd.underlying28 hi hz0 hz1 hz2 rfl (by decide) _ _ (flat insV 0 (((spCode k ++ takeK k) ++ mid1) ++ mid2)) rfl (World.ownsRow.alloc HR6.out.row _) ⟨w6.heap.size, 0, none⟩ 2 2 (flat insV 0 (mid3)) rfl rfl (new_cells w6 (flat insV 0 mid3) _) (insV_one _ _) (len_ok (len3 hk10) (by decide)) (len_ok2 (len3 hk10) (by decide)) ?_; intro v7 w7 hown7 hgr7 hfr7 hz7; have R7 := HR6.out.append (x := mid3) ((Mod.refl _ _).alloc _) hown7 hgr7 hfr7; have HR7 := Lib.hid R7; clear R7 hown7 hgr7 hfr7 hz7)
        | (at_builtin; obtain ⟨gc, cc, hge, hsC⟩ := InsRow.src HR7.out.other (by simp [giveCode]); cases hge; refine wpList_append_mine _ rfl (.tmp 59) (.tmp 60) 28 rfl 124 i0 (.agg #[.string ⟨#[]⟩, .int .i64 0, .int .i64 0, .int .i64 0, .string ⟨#[]⟩]) 5 56 Tryd.underlying28 hi hz0 hz1 hz2 rfl (by decide) _ _ (flat insV 0 ((((spCode k ++ takeK k) ++ mid1) ++ mid2) ++ mid3)) rfl (HR7.out.row) ⟨gb, 0, none⟩ 3 cb (flat insV 0 (giveK)) rfl rfl (hsC) (insV_one _ _) (len_ok (len4 hk10) (by decide)) (len_ok2 (len4 hk10) (by decide)) ?_; intro v8 w8 hown8 hgr8 hfr8 hz8; have R8 := HR7.out.append (x := giveK) (Mod.refl _ _) hown8 hgr8 hfr8; have HR8 := Lib.hid R8; clear R8 hsC hown8 hgr8 hfr8 hz8))
      go_roundw
      case rel => exact ⟨k + 1, by omega, by go_num, _, _, by rw [← spCode_succ]; exact HR8.out⟩
      case measure => simp [intOf]; omega
    · have hd : decide ((k : Int) < (times : Int)) = false := by simp; omega
      obtain rfl : k = times := by omega
      go_wp2
      go_ret2
      exact ⟨_, rfl, HR.out.row, HR.out.below, HR.out.own⟩
end Go.Proofs.YtamfbfajlfbooaaDoor
