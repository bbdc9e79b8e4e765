/- ClientOne: its walk. -/
import Derived.Test.YtppihkneeolomaaDoorCOm10
import Derived.Test.YtppihkneeolomaaDoorCOm9
import Derived.Test.YtppihkneeolomaaDoorCONewWalk
import Derived.Test.YtppihkneeolomaaDoorCOm5
import Derived.Test.YtppihkneeolomaaDoorCOm3
set_option linter.unusedVariables false
set_option linter.unusedSimpArgs false
set_option linter.unusedSectionVars false
namespace Go.Proofs.YtppihkneeolomaaDoor
open Go.RowKit Qs Qh Qc Qg Qo
variable {w w' : World} {v : Value} {z : List Int} {a : Nat → Addr} {f : Nat}
theorem opInfo5 : (Tryd.prog.info? 63).map (fun i => (i.zero, i.size, i.bytes)) = some (some (.agg #[.string ⟨#[]⟩, .int .i64 0]), 2, 24) := by kernel_rfl
/-- What the first loop makes: ops, what is wanted. -/
structure CoL (w wr : World) (z : List Int) (k : Nat) (ops want : Value) : Prop where
  mod : Mod noF w wr
  own : wr.ownsRow 0 63 2 ops (5 * k) (flat rV 0 (rawO (z.take k)))
  oin : ∀ g, ops.ownBlock = some g → w.heap.size ≤ g
  wnt : IOwn wr want (z.take k)
  win : ∀ g, want.ownBlock = some g → w.heap.size ≤ g
  dis : ∀ g, ops.ownBlock = some g → want.ownBlock ≠ some g
  rng : ∀ n ∈ z.take k, 1 ≤ n ∧ n ≤ 1000
theorem CoL.olt {wr : World} {k : Nat} {ops want : Value} (h : CoL w wr z k ops want) {g : Nat} (hg : ops.ownBlock = some g) : g < wr.heap.size := (World.ownsRow.lt h.own g hg).2
/-- A round of it. -/
theorem CoL.next {wr w3 w4 w5 w6 : World} {k : Nat} {n : Int} {ops want v4 v6 : Value} (C : CoL w wr z k ops want) (hn : z[k]? = some n) (hr : 1 ≤ n ∧ n ≤ 1000)
    (h3 : Mod noF wr w3) (o4 : w4.ownsRow 0 63 2 v4 (5 * k + 5) (flat rV 0 (rawO (z.take k)) ++ flat rV 0 (raw1 n))) (g4 : w3.grownBy w4 ops.ownBlock) (f4 : ∀ g, v4.ownBlock = some g → ops.ownBlock = some g ∨ w3.heap.size ≤ g)
    (h5 : Mod noF w4 w5) (o6 : w6.ownsRow 0 3 1 v6 ((z.take k).length + 1) ((z.take k).map (Value.int .i64) ++ [.int .i64 n])) (g6 : w5.grownBy w6 want.ownBlock) (f6 : ∀ g, v6.ownBlock = some g → want.ownBlock = some g ∨ w5.heap.size ≤ g) : CoL w w6 z (k + 1) v4 v6 := by
  have m4 : Mod (fun x => ops.ownBlock = some x) wr w4 := h3.any.grown g4 fun j hj _ => hj
  have m6 : Mod (fun x => want.ownBlock = some x) w4 w6 := h5.any.grown g6 fun j hj _ => hj
  have s3 := h3.size
  have s0 := C.mod.size
  have s5 := h5.size
  have s4 := m4.size
  have htk : z.take (k + 1) = z.take k ++ [n] := by rw [List.take_add_one, hn]; rfl
  have hv4 : ∀ g, v4.ownBlock = some g → want.ownBlock ≠ some g := fun g hg e => by
    rcases f4 g hg with h | h
    · exact C.dis g h e
    · have := C.wnt.lt e; omega
  refine ⟨(C.mod.trans m4 fun x hx e => ?_).trans m6 fun x hx e => ?_, ?_, fun g hg => ?_, ?_, fun g hg => ?_, fun g hg e => ?_, fun m hm => ?_⟩
  · have := C.oin x e; omega
  · have := C.win x e; omega
  · rw [rawO_take hn, rV_app]
    rw [show 5 * (k + 1) = 5 * k + 5 by omega]
    exact ⟨o4.1, by
      rcases o4.2 with e | ⟨g, cap, cur, rfl, h0, hg, r⟩
      · exact .inl e
      · exact .inr ⟨g, cap, cur, rfl, h0, m6.heap hg (hv4 g rfl), r⟩⟩
  · rcases f4 g hg with h | h
    · exact C.oin g h
    · omega
  · rw [htk]; exact IOwn.snoc o6
  · rcases f6 g hg with h | h
    · exact C.win g h
    · omega
  · have hlt : g < w4.heap.size := (World.ownsRow.lt o4 g hg).2
    rcases f6 g e with h | h
    · exact hv4 g hg h
    · omega
  · rw [htk, List.mem_append, List.mem_singleton] at hm
    rcases hm with h | rfl
    · exact C.rng m h
    · exact hr
theorem rV_ones1 (n : Int) : ∀ u ∈ flat rV 0 (raw1 n), u.oneCell' = true := fun u hu => by
  simp only [raw1, flat, rV, List.cons_append, List.nil_append, List.mem_cons, List.not_mem_nil, or_false] at hu
  rcases hu with rfl | rfl | rfl | rfl | rfl | rfl | rfl | rfl | rfl | rfl <;> rfl
theorem opsC_put {ns : List Int} (h : ∀ n ∈ ns, 1 ≤ n ∧ n ≤ 1000) {n : Int} (hn : COp.put n ∈ opsC ns) : 1 ≤ n ∧ n ≤ 1000 := by
  induction ns with
  | nil => cases hn
  | cons m ns ih =>
    rw [opsC_cons, List.mem_append] at hn
    rcases hn with hn | hn
    · simp only [opsC1, List.mem_cons, List.not_mem_nil, or_false] at hn
      rcases hn with hn | hn | hn | hn | hn
      · cases hn; exact h n (by simp)
      · cases hn
      · cases hn
      · cases hn
      · cases hn
    · exact ih (fun k hk => h k (by simp [hk])) hn
set_option maxHeartbeats 4000000 in
theorem co_out {f : Int} (E : ErrsC w a) (HK : KindsW w) (Hz : IntsAt w v z) (hg : ¬ (z.length ≤ 4 ∧ 1 ≤ f ∧ f ≤ 4)) :
    Calls Tryd.prog 6 #[.int .i64 f, v] w fun e w' => e = .returned (.bool true) ∧ Mod noF w w' := by
  obtain ⟨va, vc, rfl, hcm, -⟩ := Hz.at_
  have Hb := Lib.hid (built_ok E HK)
  clear E HK Hz
  by_cases g1 : 4 < z.length
  · have d1 : decide ((4 : Int) < (z.length : Int)) = true := by simp; omega
    go_enter Tryd.func6, Tryd.ntmps6
    go_wp2_with fail
    refine Hb.out.mono ?_
    rintro e w1 ⟨rfl, hm1⟩
    have Hm1 := Lib.hid hm1
    clear hm1 Hb
    go_wp2
    go_ret
    exact ⟨rfl, Hm1.out⟩
  · have d1 : decide ((4 : Int) < (z.length : Int)) = false := by simp; omega
    by_cases g2 : f < 1
    · have d2 : decide (f < 1) = true := by simp; omega
      go_enter Tryd.func6, Tryd.ntmps6
      go_wp2_with fail
      refine Hb.out.mono ?_
      rintro e w1 ⟨rfl, hm1⟩
      have Hm1 := Lib.hid hm1
      clear hm1 Hb
      go_wp2
      go_ret
      exact ⟨rfl, Hm1.out⟩
    · have d2 : decide (f < 1) = false := by simp; omega
      have d3 : decide ((4 : Int) < f) = true := by simp; omega
      go_enter Tryd.func6, Tryd.ntmps6
      go_wp2_with fail
      refine Hb.out.mono ?_
      rintro e w1 ⟨rfl, hm1⟩
      have Hm1 := Lib.hid hm1
      clear hm1 Hb
      go_wp2
      go_ret
      exact ⟨rfl, Hm1.out⟩
set_option maxRecDepth 100000 in
set_option maxHeartbeats 64000000 in
theorem co_good (E : ErrsC w a) (HK : KindsW w) (Hz : IntsAt w v z) (hz4 : z.length ≤ 4) (hf1 : 1 ≤ f) (hf4 : f ≤ 4) :
    Calls Tryd.prog 6 #[.int .i64 f, v] w fun e w' => e = .returned (.bool true) ∧ Mod noF w w' := by
  have HZ := Lib.hid Hz
  obtain ⟨va, vc, rfl, hcm, hcell⟩ := Hz.at_
  have Hcell := Lib.hid hcell
  have Hb := Lib.hid (built_ok E HK)
  have HE := Lib.hid E
  have HKW := Lib.hid HK
  have d1 : decide ((4 : Int) < (z.length : Int)) = false := by simp; omega
  have d2 : decide ((f : Int) < 1) = false := by simp; omega
  have d3 : decide ((4 : Int) < (f : Int)) = false := by simp; omega
  have hnf := noFault4
  obtain ⟨i0, hti, hz0, hz1, hz2⟩ := info_parts opInfo5
  obtain ⟨j0, htj, hy0, hy1, hy2⟩ := info_parts intInfo4
  clear E HK Hz hcell
  go_enter Tryd.func6, Tryd.ntmps6
  go_wp2_with fail
  refine Hb.out.mono ?_
  rintro e w1 ⟨rfl, hm1⟩
  have Hm1 := Lib.hid hm1
  clear hm1 Hb
  go_wp2
  go_loopw [6, 7, 8] (fun o t i wr => ∃ k : Nat, k ≤ z.length ∧ i = .int .i64 k ∧ CoL w1 wr z k o t) (fun _ _ i _ => z.length - (intOf i).toNat)
  case atStart =>
    refine ⟨0, Nat.zero_le _, rfl, (Mod.refl _ _).alloc _, ?_, fun g hg => (by cases hg), ?_, fun g hg => ?_, fun g hg => (by cases hg), fun n hn => (by simp at hn)⟩
    · exact World.ownsRow_nil _ 0 _ 2
    · rw [List.take_zero]; exact IOwn.empty w1
    · cases hg; exact Nat.le_refl _
  case round =>
    generalize wr = w2 at *
    obtain ⟨k, hk, rfl, hC⟩ := hrel
    obtain ⟨oa, ob, oc, rfl⟩ := slice_of_own hC.own
    obtain ⟨ta, tb, tc, rfl⟩ := slice_of_own hC.wnt
    have HC := Lib.hid hC
    clear hC
    by_cases hlt : k < z.length
    · have hd : decide ((k : Int) < (z.length : Int)) = true := by simp; omega
      have hki : (k : Int) < (z.length : Int) := by omega
      obtain ⟨n, hn⟩ : ∃ n, z[k]? = some n := ⟨_, List.getElem?_eq_getElem hlt⟩
      obtain ⟨b, off, rfl, hb, hc⟩ := Hcell.out k n hn
      have hc2 := (Hm1.out.trans0 HC.out.mod).cell hc (fun e => e)
      have Hn := Lib.hid hn
      clear hn hc
      by_cases h1 : n < 1
      · have e1 : decide (n < 1) = true := by simp; omega
        go_wp2
        go_ret
        exact ⟨rfl, Hm1.out.trans0 HC.out.mod⟩
      · have e1 : decide (n < 1) = false := by simp; omega
        by_cases h2 : 1000 < n
        · have e2 : decide ((1000 : Int) < n) = true := by simp; omega
          go_wp2
          go_ret
          exact ⟨rfl, Hm1.out.trans0 HC.out.mod⟩
        · have e2 : decide ((1000 : Int) < n) = false := by simp; omega
          have hbnd : 5 * k + 5 ≤ maxLen := by unfold maxLen; omega
          have hbw : b < w1.heap.size := Nat.lt_of_lt_of_le hb Hm1.out.size
          have hnb : ¬ (Value.slice oa ob oc).ownBlock = some b := fun e => by have := HC.out.oin b e; omega
          have hW2 : IOwn w2 (.slice ta tb tc) (z.take k) := HC.out.wnt
          have hdis := HC.out.dis
          have HW2 := Lib.hid hW2
          have Hdis := Lib.hid hdis
          have Hnb := Lib.hid hnb
          clear hW2 hdis hnb
          have htk4 : (z.take k).length ≤ 4 := by rw [List.length_take]; omega
          have hbnd2 : (z.take k).length + 1 ≤ maxLen := by rw [List.length_take]; unfold maxLen; omega
          go_wp2_with (at_builtin; first
            | (refine wpList_append_mine _ rfl (.tmp 51) (.tmp 61) 59 rfl 63 i0 (.agg #[.string ⟨#[]⟩, .int .i64 0]) 2 24 Tryd.underlying59 hti hz0 hz1 hz2 rfl (by decide) _ (5 * k) (flat rV 0 (rawO (z.take k))) rfl (by exact World.ownsRow.alloc HC.out.own _) ⟨w2.heap.size, 0, none⟩ 5 5 (flat rV 0 (raw1 n)) rfl rfl (by exact new_cells_at _ _ _ rfl) (by exact rV_ones1 n) hbnd (by omega) ?_; intro v4 w7 hown hgr hfr _; obtain ⟨ya, yb, yc, rfl⟩ := slice_of_own hown; have Hown4 := Lib.hid hown; have Hgr := Lib.hid hgr; have Hfr := Lib.hid hfr; have hm7 := appended Hgr.out ((Mod.refl noF w2).alloc (.cells (flat rV 0 (raw1 n)).toArray 63)); have z7 := hm7.cell hc2 Hnb.out; have HW7 := Lib.hid (HW2.out.keep hm7 (fun g hg e => Hdis.out g e hg)); clear hown hgr hfr hm7)
            | (refine wpList_append_mine _ rfl (.tmp 63) (.tmp 68) 23 rfl 3 j0 (.int .i64 0) 1 8 Tryd.underlying23 htj hy0 hy1 hy2 rfl (by decide) _ (z.take k).length ((z.take k).map (Value.int .i64)) rfl (by exact World.ownsRow.alloc HW7.out _) ⟨w7.heap.size, 0, none⟩ 1 1 [.int .i64 n] rfl rfl (by exact new_cells_at _ _ _ rfl) (int_one n) hbnd2 (by omega) ?_; intro v6 w9 hown hgr hfr _; obtain ⟨xa, xb, xc, rfl⟩ := slice_of_own hown; have Hown6 := Lib.hid hown; have Hgr6 := Lib.hid hgr; have Hfr6 := Lib.hid hfr; clear hown hgr hfr))
          go_wp2
          go_roundw
          case rel => exact ⟨k + 1, by omega, by go_num, HC.out.next Hn.out (by omega) ((Mod.refl noF w2).alloc _) Hown4.out Hgr.out Hfr.out ((Mod.refl noF w7).alloc _) Hown6.out Hgr6.out Hfr6.out⟩
          case measure => simp [intOf]; omega
    · have hd : decide ((k : Int) < (z.length : Int)) = false := by simp; omega
      obtain rfl : k = z.length := by omega
      have hC2 := HC.out
      have htk : z.take z.length = z := List.take_length
      have hown := hC2.own
      have hwn := hC2.wnt
      have hrng := hC2.rng
      rw [htk] at hown hwn hrng
      have hR : RRow w2.heap.size w2 (.slice oa ob oc) (rawO z) := rRow_own (T := 63) (by rw [rawO_len]; exact hown)
      have Hm2 := Lib.hid (Hm1.out.trans0 hC2.mod)
      have hwi := hwn.ints
      obtain ⟨wa, wc, ew, -, -⟩ := hwi.at_
      cases ew
      have Hwn := Lib.hid hwn
      have hR1 : RIn (w2.alloc (.cells #[.slice oa ob oc] 59)).heap.size (w2.alloc (.cells #[.slice oa ob oc] 59)) (.slice (some ⟨w2.heap.size, 0, none⟩) 1 1) (rawC [opsC z]) :=
        rin_one (by exact heap_alloc_new w2 _) ((hR.keep ((Mod.refl noF w2).alloc _) (fun _ _ e => e)).mono (by simp))
      have HR1 := Lib.hid hR1
      have hk0 := cfG_rawO hz4 hrng
      have Hk0 := Lib.hid hk0
      have h20 : ∀ l ∈ [opsC z], l.length ≤ 20 := fun l hl => by
        rw [List.mem_singleton] at hl; subst hl
        have := rawO_len z
        unfold rawO at this
        rw [List.length_map] at this; omega
      have hp : ∀ l ∈ [opsC z], ∀ n, COp.put n ∈ l → 1 ≤ n ∧ n ≤ 1000 := fun l hl n hn => by
        rw [List.mem_singleton] at hl; subst hl
        exact opsC_put hrng hn
      have hfn := c_fine (f := f) (q := [opsC z]) hf1 hf4 (by simp) h20 hp
      have Hfn := Lib.hid hfn
      have H20 := Lib.hid h20
      have Hrng := Lib.hid hrng
      clear hC2 hown hwn hrng hR hwi hR1 hk0 h20 hp hfn htk
      go_wp2_with fail
      have hmA : Mod noF w (w2.alloc (.cells #[.slice oa ob oc] 59)) := Hm2.out.trans0 ((Mod.refl noF w2).alloc _)
      refine (cbuild_ok (HE.out.keep hmA) (HKW.out.keep hmA) HR1.out (Nat.le_refl _) Hk0.out (by simp) (by simp) H20.out hf1 hf4).mono ?_
      rintro e w4 ⟨iv, rv, cv, vk4, rfl, hm4, hI, hR, hC⟩
      have HI := Lib.hid hI
      have HR := Lib.hid hR
      obtain ⟨ca, cc, rfl, hcx⟩ := hC
      have HC4 := Lib.hid (show CodesAt w4 (.slice ca (cCodes f [opsC z]).length cc) (cCodes f [opsC z]) vk4 from ⟨ca, cc, rfl, hcx⟩)
      rw [cCodes_len] at HC4 ⊢
      have Hm4 := Lib.hid (hmA.trans0 hm4)
      have HW4 := Lib.hid (Hwn.out.keep (((Mod.refl noF w2).alloc _).trans0 hm4) (fun _ _ e => e))
      obtain ⟨ia, ic, rfl, -⟩ := hI
      obtain ⟨ra, rc, rfl, -⟩ := hR
      rw [cInit_len] at HI ⊢
      rw [cRegs_len] at HR ⊢
      clear hm4 hcx hmA HR1 Hwn
      generalize hq : [opsC z] = q at *
      have hq1 : q.length = 1 := by rw [← hq]; rfl
      rw [hq1] at HI HR HC4 ⊢
      go_wp2_with fail
      refine (backStart_ok 64 ia ra _ ic _ rc _).mono ?_
      rintro e w5 ⟨rfl, hm5⟩
      have hq4 := (Mod.refl noF w4).alloc (.cells #[.int .i64 64, .slice ia (1 + 5) ic, .slice ra 1 rc] 32)
      have hT5 := hm5.heap (heap_alloc_new w4 (.cells #[.int .i64 64, .slice ia (1 + 5) ic, .slice ra 1 rc] 32)) (fun e => e)
      have HT5 := Lib.hid hT5
      have Hm5 := Lib.hid (hq4.trans0 hm5)
      clear hm5 hq4 hT5
      go_wp2_with fail
      have hI5 := HI.out.keepM Hm5.out
      have hR5 := HR.out.keepM Hm5.out
      have hC5 := CodesAt.keepM HC4.out Hm5.out
      have hcl : (cCodes f q).length = 1 := by rw [cCodes_len, hq1]
      have hil : (cInit f q.length).length ≤ 64 := by rw [cInit_len, hq1]; decide
      have hrl : (cRegs q.length).length = (cCodes f q).length := by rw [cRegs_len, hcl, hq1]
      have hci := cInit_fine f q.length (by omega)
      have hcr := cRegs_fine q.length (by omega)
      rw [hq1] at hil hrl hci hcr
      refine (startFault_ok 64 _ _ _ (cInit f 1) (cRegs 1) _ _ _ hI5 hR5 hC5 (by omega) (by omega) (by rw [hcl]; decide) (by rw [hcl]; decide) hil (by rw [hrl]; exact Nat.le_refl _) hci hcr Hfn.out).mono ?_
      rintro e w6 ⟨rfl, hm6⟩
      have Hm6 := Lib.hid (Hm5.out.trans0 hm6)
      have HT6 := Lib.hid (hm6.heap HT5.out (fun e => e))
      have c0 := cell_of_heap HT6.out 0
      have c1 := cell_of_heap HT6.out 1
      have c2 := cell_of_heap HT6.out 2
      replace c0 : w6.cell? ⟨w4.heap.size, 0, none⟩ = some (.int .i64 64) := c0
      replace c1 : w6.cell? ⟨w4.heap.size, 1, none⟩ = some (.slice ia (1 + 5) ic) := c1
      replace c2 : w6.cell? ⟨w4.heap.size, 2, none⟩ = some (.slice ra 1 rc) := c2
      clear hm6 hI5 hR5 hC5 HT5
      go_wp2_with fail
      refine (backStart_ok 64 ia ra _ ic _ rc _).mono ?_
      rintro e w7 ⟨rfl, hm7⟩
      have Hm7 := Lib.hid (Hm6.out.trans0 hm7)
      clear hm7 c0 c1 c2 HT6
      go_wp2_with fail
      have hI7 := HI.out.keepM Hm7.out
      have hR7 := HR.out.keepM Hm7.out
      have hC7 := CodesAt.keepM HC4.out Hm7.out
      refine (newMachine_ok 64 _ _ _ (cInit f 1) (cRegs 1) _ _ _ hI7 hR7 hC7 (by omega) (by omega) (by rw [hcl]; decide) (by rw [hcl]; decide) hil hrl hci hcr Hfn.out).mono ?_
      rintro e w8 ⟨L, rfl, hX, hb8, hf8⟩
      have hcM : startM 64 (cInit f 1) (cRegs 1) (cCodes f q) = cM f q := by unfold cM; rw [hq1]
      rw [hcM] at hX hf8
      have HX := Lib.hid hX
      have hq8 := Mod.below hb8
      have Hm8 := Lib.hid (Hm4.out.trans0 (Hm7.out.trans0 hq8))
      have HW8 := Lib.hid (HW4.out.keep (Hm7.out.trans0 hq8) (fun _ _ e => e))
      have hlaw := cl_law hf1 hf4 hz4 Hrng.out (n := 4000) (by decide)
      rw [hq] at hlaw
      have hT1 : (cM f q).T.length = 1 := by rw [c_Tlen, hq1]
      have hfw : ∀ j, Foot ty allK L (cM f q) j → w.heap.size ≤ j ∧ ∀ g, (Value.slice ta z.length tc).ownBlock = some g → j ≠ g := fun j hj => by
        have h1 := hf8 j hj
        have h2 := (Hm4.out.trans0 Hm7.out).size
        refine ⟨by omega, fun g hg e => ?_⟩
        have := HW4.out.lt hg
        have := Hm7.out.size
        omega
      have Hfw := Lib.hid hfw
      have Hlaw := Lib.hid hlaw
      have HT1 := Lib.hid hT1
      clear hX hb8 hf8 hcM hq8 hlaw hT1 hfw hI7 hR7 hC7 HI HR HC4 Hm7 Hm6 Hm5 hci hcr hil hrl hcl
      generalize cM f q = m at *
      go_wp2
      go_loopw [13] (fun i wr => ∃ k : Nat, k ≤ 4000 ∧ itsRel w8 L m k i wr) (fun i _ => 4000 - (intOf i).toNat)
      case atStart => exact ⟨0, Nat.zero_le _, itsRel.start HX.out (Mod.refl _ _)⟩
      case round =>
        generalize wr = w9 at *
        obtain ⟨k, hk, rfl, L9, U⟩ := hrel
        have HU := Lib.hid U
        clear U
        by_cases hlt : k < 4000
        · have hd : decide ((k : Int) < 4000) = true := by simp; omega
          have hki : (k : Int) < 4000 := by omega
          go_wp2_with fail
          refine (itsRel.turn HT1.out (by omega) HU.out).mono ?_
          rintro e w10 ⟨d, rfl, L2, U2⟩
          have HU2 := Lib.hid U2
          clear U2
          go_wp2
          go_roundw
          case rel => exact ⟨k + 1, by omega, by go_num, L2, HU2.out⟩
          case measure => simp [intOf]; omega
        · have hd : decide ((k : Int) < 4000) = false := by simp; omega
          obtain rfl : k = 4000 := by omega
          have U := HU.out
          have hX9 := U.mach
          have htop := U.top.1
          have E := Hlaw.out
          have h9 : Mod noF w w9 := Hm8.out.trans U.mod fun x hx hf => by have := (Hfw.out x hf).1; omega
          have hW9 := HW8.out.keep U.mod (fun g hg hf => (Hfw.out g hf).2 g hg rfl)
          have hdn := done_any hX9 0 (by rw [its_Tlen, HT1.out]; decide)
          rw [E.1, htop] at hdn
          have hmk := E.2.2
          generalize its 4000 m = m9 at hX9 E hmk hdn
          obtain ⟨ka, kc, htold, hmkc⟩ := hX9.told
          have hh := hX9.head
          have hlen : m9.marks.length = z.length := by rw [hmk, List.length_map]
          rw [htop, htold, E.2.1, hlen] at hh
          have x3 : w9.cell? ⟨L.blk 0 0, 3, none⟩ = some (.int .i64 0) := by rw [cell_of_heap hh]; rfl
          have x2 : w9.cell? ⟨L.blk 0 0, 2, none⟩ = some (.slice ka z.length kc) := by rw [cell_of_heap hh]; rfl
          have H9 := Lib.hid h9
          have HW9 := Lib.hid hW9
          have Hmkc := Lib.hid hmkc
          have Hmk := Lib.hid hmk
          have Hdn := Lib.hid hdn
          clear h9 hW9 hmkc hmk hdn hX9 htop E htold hh hlen U HU HX HW8 Hm8 Hlaw Hfw
          go_wp2_with fail
          refine Hdn.out.mono ?_
          rintro e w10 ⟨rfl, hm10⟩
          have x2' := hm10.cell x2 (fun e => e)
          have Hm10 := Lib.hid hm10
          clear hm10 Hdn
          go_wp2
          go_loopw [14] (fun i wr => ∃ q : Nat, q ≤ z.length ∧ i = .int .i64 q ∧ Mod noF w10 wr) (fun i _ => z.length - (intOf i).toNat)
          case atStart => exact ⟨0, Nat.zero_le _, rfl, Mod.refl _ _⟩
          case round =>
            generalize wr = w11 at *
            obtain ⟨q, hq, rfl, hm11⟩ := hrel
            by_cases hltq : q < z.length
            · have hd3 : decide ((q : Int) < (z.length : Int)) = true := by simp; omega
              have hqi : (q : Int) < (z.length : Int) := by omega
              obtain ⟨n, hn⟩ : ∃ n, z[q]? = some n := ⟨_, List.getElem?_eq_getElem hltq⟩
              obtain ⟨kb, rfl, hkb, k0, k1⟩ := Hmkc.out q (0, n) (by rw [Hmk.out, List.getElem?_map, hn]; rfl)
              have y2 := hm11.cell x2' (fun e => e)
              have hz := (HW9.out.keep (Hm10.out.trans0 hm11) (fun _ _ e => e)).ints
              obtain ⟨ta', tc', e', -, hzc⟩ := hz.at_
              cases e'
              obtain ⟨zb, zo, rfl, hzb, zc⟩ := hzc q n hn
              have k1 := (Hm10.out.trans0 hm11).cell k1 (fun e => e)
              simp only at k1
              have hnn : (n != n) = false := by simp
              have Hm11 := Lib.hid hm11
              clear hm11 hz hzc hn k0
              go_wp2
              go_quiet (fail)
              go_wp2
              refine ⟨⟨q + 1, by omega, by go_num, Hm11.out.drewN _⟩, by simp [intOf]; omega⟩
            · have hd3 : decide ((q : Int) < (z.length : Int)) = false := by simp; omega
              have Hm11 := Lib.hid hm11
              clear hm11
              go_wp2
              go_ret
              exact ⟨rfl, (H9.out.trans0 Hm10.out).trans0 Hm11.out⟩
theorem clientOne_any (a0 : Int) (a1 : Option Addr) (len1 cap1 : Nat) (z1 : List Int) (w : World) (hw : (Lit.int .i64 a0).wf = true) (h : IsRow .i64 w a1 len1 cap1 z1) (HK : KindsW w) (hE : ∃ a, ErrsC w a) :
    Calls Tryd.prog 6 #[.int .i64 a0, .slice a1 len1 cap1] w fun e w' => e = .returned (.bool true) ∧ Below w.heap.size w w' := by
  obtain ⟨z, hz, -, -⟩ := h.ints
  obtain ⟨a, E⟩ := hE
  have key : Calls Tryd.prog 6 #[.int .i64 a0, .slice a1 len1 cap1] w fun e w' => e = .returned (.bool true) ∧ Mod noF w w' := by
    by_cases hg : z.length ≤ 4 ∧ 1 ≤ a0 ∧ a0 ≤ 4
    · obtain ⟨f, rfl⟩ : ∃ f : Nat, a0 = (f : Int) := ⟨a0.toNat, by omega⟩
      exact co_good E HK hz hg.1 (by omega) (by omega)
    · exact co_out E HK hz hg
  exact key.mono fun e w' ⟨he, hm⟩ => ⟨he, hm.under (Nat.le_refl _) fun k hk => hk.elim⟩
end Go.Proofs.YtppihkneeolomaaDoor
