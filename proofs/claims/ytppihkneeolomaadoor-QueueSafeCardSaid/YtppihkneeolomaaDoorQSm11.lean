/- Texts that belong together, joined. -/
import Derived.Test.YtppihkneeolomaaDoorQSSchain
import Derived.Test.YtppihkneeolomaaDoorQSm10
import Derived.Test.YtppihkneeolomaaDoorQSm8
import Derived.Test.YtppihkneeolomaaDoorQSm3
import Derived.ChangeArms
set_option linter.unusedVariables false
set_option linter.unusedSimpArgs false
set_option linter.unusedSectionVars false
/- quiescentlaw3.QueueSafe: its walk, over lists that are right. -/
section
namespace Go.Proofs.YtppihkneeolomaaDoor
open Go.RowKit Qs Qh
theorem faultField (c a : Int) (w : World) : (Go.Instr.field 27 (.agg #[.int .i64 c, .int .i64 a]) 0).run Tryd.prog w = .ok (.int .i64 c) w := by kernel_rfl
theorem own_len {w : World} {b : Nat} {e : TypeId} {size : Nat} {a : Option Addr} {n c k : Nat} {xs : List Value} (h : w.ownsRow b e size (.slice a n c) k xs) : n = k := by
  rcases h.2 with ⟨e1, h0⟩ | ⟨_, _, _, e1, _⟩
  · cases e1; exact h0.symm
  · cases e1; rfl
/-- Lists that are right, as they come in. -/
def rawOf (q : List (List Qu.Op)) : List (List ROp) := q.map (·.map opR)
set_option maxRecDepth 40000 in
set_option maxHeartbeats 16000000 in
theorem safe_good {N : Nat} (q : List (List Qu.Op)) (v vs : Value) (s : List Int) (w : World) (H : RIn N w v (rawOf q)) (hnil : NilOk w v) (hN : N ≤ w.heap.size) (h1 : 1 ≤ q.length) (h6 : q.length ≤ 6) (h20 : ∀ l ∈ q, l.length ≤ 20) (hp : ∀ l ∈ q, ∀ n, Qu.Op.put n ∈ l → 1 ≤ n ∧ n ≤ 1000)
    (hlong : longB (rawOf q) = false) (hkf : (kf (rawOf q)).1 = 0) (hl : IntsAt w vs s) (hlen : s.length ≤ 3000) (hlw : ∀ x ∈ s, -9223372036854775808 ≤ x ∧ x ≤ 9223372036854775807) (hvb : s ≠ [] → ∀ b, vs.ownBlock = some b → b < w.heap.size) :
    Calls Tryd.prog 3 #[v, vs] w fun e w' => e = .returned (.bool true) ∧ Mod noF w w' := by
  have hrl : (rawOf q).length = q.length := by simp [rawOf]
  have hrow : ∀ l ∈ rawOf q, l.length ≤ 20 := fun l hl => by
    obtain ⟨l', hl', rfl⟩ := List.mem_map.1 hl
    rw [List.length_map]; exact h20 l' hl'
  have Hl := Lib.hid hl
  have HH := Lib.hid H
  have Hnil := Lib.hid hnil
  have Hrow := Lib.hid hrow
  have H20 := Lib.hid h20
  have Hp := Lib.hid hp
  obtain ⟨va, vc, rfl, -⟩ := hl.at_
  obtain ⟨oa, oc, rfl, -⟩ := H
  rw [hrl]
  have Hlong := Lib.hid hlong
  have Hkf := Lib.hid hkf
  have d5 : decide ((3000 : Int) < (s.length : Int)) = false := by simp; omega
  have Hlw := Lib.hid hlw
  have Hvb := Lib.hid hvb
  have hff := faultField
  clear hl hlw hvb hnil hrow h20 hp hlong hkf
  have HH2 : Hid (RIn N w (.slice oa q.length oc) (rawOf q)) := Lib.hid (by rw [← hrl]; exact HH.out)
  have Hnil2 : Hid (NilOk w (.slice oa q.length oc)) := Lib.hid (by rw [← hrl]; exact Hnil.out)
  clear HH Hnil
  go_enter Tryd.func3, Tryd.ntmps3
  go_wp2_with fail
  refine (lined_ok _).mono ?_
  rintro e w1 ⟨rfl, hm1⟩
  have Hm1 := Lib.hid hm1
  clear hm1
  go_wp2_with fail
  refine (long_any (HH2.out.keep Hm1.out (fun _ _ e => e)) (by rw [hrl]; unfold maxLen; omega) (fun l hl => by have := Hrow.out l hl; unfold maxLen; omega)).mono ?_
  rintro e w1 ⟨rfl, rfl⟩
  rw [Hlong.out]
  go_wp2_with fail
  refine (kinds_any (HH2.out.keep (Hm1.out.alloc _) (fun _ _ e => e)) (by omega) (fun l hl => by have := Hrow.out l hl; omega) w1.heap.size (by simp [takeS])).mono ?_
  rintro e w2 ⟨rfl, hm2⟩
  rw [Hkf.out]
  have Hm2 := Lib.hid ((Hm1.out.alloc _).trans0 hm2)
  clear hm2
  go_wp2_with fail
  refine (opsOf_ok (HH2.out.keep Hm2.out (fun _ _ e => e)) (fun b off n m i k c e hi hc => by
    obtain ⟨a2, c2, e2, hx⟩ := HH2.out
    rw [hrl] at e2
    cases e2
    cases e
    obtain ⟨l, hl⟩ : ∃ l, (rawOf q)[i]? = some l := ⟨_, List.getElem?_eq_getElem (by rw [hrl]; exact hi)⟩
    obtain ⟨b2, off2, u2, e3, hb2, hc2, -⟩ := hx i l hl
    cases e3
    have := Hm2.out.cell hc2 (fun e => e)
    rw [this] at hc
    cases hc
    exact Hnil2.out b off _ _ i k c rfl hi hc2) (by omega) (fun l hl => by have := Hrow.out l hl; omega)).mono ?_
  rintro e w3 ⟨x, rfl, hm3, hR3⟩
  have hO3 := RIn.ops hR3
  obtain ⟨xa, xc, rfl, -⟩ := hO3
  have HO3 := Lib.hid (RIn.ops hR3)
  have Hm3 := Lib.hid (Hm2.out.trans0 hm3)
  clear hm3 hR3
  go_wp2_with fail
  refine (build_ok HO3.out (Nat.le_refl _) h1 h6 H20.out Hp.out).mono ?_
  rintro e w4 ⟨iv, rv, cv, vk4, rfl, hm4, hI, hR, hC⟩
  have HI := Lib.hid hI
  have HR := Lib.hid hR
  have hcl : (q.map (Qu.codeOf Qu.labO 0)).length = q.length := by rw [List.length_map]
  obtain ⟨ca, cc, rfl, hcx⟩ := hC
  have hC : CodesAt w4 (.slice ca q.length cc) (q.map (Qu.codeOf Qu.labO 0)) vk4 := ⟨ca, cc, by rw [hcl], hcx⟩
  have HC := Lib.hid hC
  rw [hcl]
  have Hm4 := Lib.hid (Hm3.out.trans0 hm4)
  obtain ⟨ia, ic, rfl, -⟩ := hI
  obtain ⟨ra, rc, rfl, -⟩ := hR
  clear hm4 hC hcx hcl
  go_wp2_with fail
  refine (backStart_ok 64 ia ra _ ic _ rc _).mono ?_
  rintro e w5 ⟨rfl, hm5⟩
  have Hm5 := Lib.hid (((Mod.refl noF w4).alloc _).trans0 hm5)
  have c0 := hm5.cell (show (w4.alloc (.cells #[.int .i64 64, .slice ia qInit.length ic, .slice ra (qRegs q.length).length rc] 32)).cell? ⟨w4.heap.size, 0, none⟩ = some (.int .i64 64) by simp) (fun e => e)
  have c1 := hm5.cell (show (w4.alloc (.cells #[.int .i64 64, .slice ia qInit.length ic, .slice ra (qRegs q.length).length rc] 32)).cell? ⟨w4.heap.size, 1, none⟩ = some (.slice ia qInit.length ic) by simp) (fun e => e)
  have c2 := hm5.cell (show (w4.alloc (.cells #[.int .i64 64, .slice ia qInit.length ic, .slice ra (qRegs q.length).length rc] 32)).cell? ⟨w4.heap.size, 2, none⟩ = some (.slice ra (qRegs q.length).length rc) by simp) (fun e => e)
  clear hm5
  go_wp2_with fail
  refine (startFault_ok 64 _ _ _ qInit (qRegs q.length) _ _ _ (HI.out.keepM Hm5.out) (HR.out.keepM Hm5.out) (HC.out.keepM Hm5.out) (by omega) (by omega) (by rw [List.length_map]; omega) (by rw [List.length_map]; omega) (by decide) (by rw [List.length_map]; simp [qRegs]) qInit_fine (qRegs_fine _) (codes_fine H20.out Hp.out)).mono ?_
  rintro e w6 ⟨rfl, hm6⟩
  have Hm6 := Lib.hid (Hm5.out.trans0 hm6)
  have c0 := hm6.cell c0 (fun e => e)
  have c1 := hm6.cell c1 (fun e => e)
  have c2 := hm6.cell c2 (fun e => e)
  clear hm6
  go_wp2_with fail
  refine (backStart_ok 64 ia ra _ ic _ rc _).mono ?_
  rintro e w7 ⟨rfl, hm7⟩
  have Hm7 := Lib.hid (Hm6.out.trans0 hm7)
  clear hm7 c0 c1 c2
  go_wp2_with fail
  refine (newMachine_ok 64 _ _ _ qInit (qRegs q.length) _ _ _ (HI.out.keepM Hm7.out) (HR.out.keepM Hm7.out) (HC.out.keepM Hm7.out) (by omega) (by omega) (by rw [List.length_map]; omega) (by rw [List.length_map]; omega) (by decide) (by rw [List.length_map]; simp [qRegs]) qInit_fine (qRegs_fine _) (codes_fine H20.out Hp.out)).mono ?_
  rintro e w8 ⟨L, rfl, hX, hb8, hf8⟩
  have hq : startM 64 qInit (qRegs q.length) (q.map (Qu.codeOf Qu.labO 0)) = qM Qu.labO q := rfl
  rw [hq] at hX hf8
  have hq8 := Mod.below hb8
  have Hs7 := (Hm4.out.trans0 Hm7.out).size
  have Hall := Lib.hid ((Hm4.out.trans0 Hm7.out).trans0 hq8)
  have HX := Lib.hid hX
  have Hf8 := Lib.hid hf8
  have HE := Lib.hid (safe_end q h1 h6 H20.out s hlen)
  have hh := hX.head
  have x0 : w8.cell? ⟨L.blk 0 0, 0, none⟩ = some (.pointer (some ⟨L.blk 1 0, 0, none⟩)) := by rw [cell_of_heap hh]; rfl
  have hwas := was_two q
  have hcq := countQ_any hX.rep rfl rfl hX.om hX.ol
  rw [hwas] at hcq
  have Hcq := Lib.hid hcq
  clear hX hb8 hf8 hq hq8 HI HR HC Hm7 Hm6 Hm5 hh hwas hcq
  go_wp2_with fail
  refine Hcq.out.mono ?_
  rintro e w9 ⟨rfl, hm9⟩
  have HX9 := Lib.hid (HX.out.frame0 hm9)
  have Hall9 := Lib.hid (Hall.out.trans0 hm9)
  clear hm9 Hcq x0
  go_wp2_with fail
  refine (run_any HX9.out (easy_any _) (by omega) _ s (Hl.out.frame0 Hall9.out) (by omega) Hlw.out (fun h0 b hb hf => by have := Hvb.out h0 b hb; have := Hf8.out b hf; omega)).mono ?_
  rintro e wa ⟨rfl, L9, U⟩
  have ha : Mod noF w wa := Hall9.out.trans U.mod fun x hx hf => by have := Hf8.out x hf; omega
  have HXa := U.mach
  have htop := U.top.1
  have E := HE.out
  unfold safeM at E
  generalize ((qM Qu.labO q).run s).1 = m9 at HXa E
  have HNa : (1 : Int) + 48 * s.length ≤ 1000000 := by omega
  generalize ((1 : Int) + 48 * (s.length : Int)) = NN at HXa HNa
  obtain ⟨ta, tc, htold, hmk⟩ := HXa.told
  have hh := HXa.head
  rw [htold, E.faults] at hh
  have hrest := rest_any HXa
  have hcnt := countQ_any HXa.rep rfl rfl HXa.om HXa.ol
  have h500 := HXa.ot.marks
  rw [htop] at hh hrest
  have x3 : wa.cell? ⟨L.blk 0 0, 3, none⟩ = some (.int .i64 0) := by rw [cell_of_heap hh]; rfl
  have x2 : wa.cell? ⟨L.blk 0 0, 2, none⟩ = some (.slice ta m9.marks.length tc) := by rw [cell_of_heap hh]; rfl
  have x0 : wa.cell? ⟨L.blk 0 0, 0, none⟩ = some (.pointer (some ⟨L9.blk 1 0, 0, none⟩)) := by rw [cell_of_heap hh]; rfl
  have Ha := Lib.hid ha
  have HEa := Lib.hid E
  have Hmk := Lib.hid hmk
  have Hrest := Lib.hid hrest
  have Hcnt := Lib.hid hcnt
  have Htop := Lib.hid htop
  have Hxa := Lib.hid HXa
  have hpl := putsAll_len q H20.out
  clear ha U HXa htop E htold hmk hh HE HX Hf8 hrest hcnt HX9
  go_wp2_with fail
  refine (given_ok (RIn.ops (HH2.out.keep Ha.out (fun _ _ e => e))) h6 H20.out).mono ?_
  rintro e wb ⟨gx, rfl, hmb, hgo, hgv⟩
  have hgi := hgo.ints
  have hgl := hgo.len
  obtain ⟨ga, gb, gc, rfl⟩ := slice_of_own hgo
  have Hmb := Lib.hid hmb
  have Hgi := Lib.hid hgi
  have y2 := hmb.cell x2 (fun e => e)
  have hgb : gb = (putsAll q).length := hgl
  subst hgb
  clear hmb hgo hgv hgi hgl
  go_wp2_with fail
  refine (marked_ok (L.blk 0 0) ta tc m9.marks y2 (fun i x hx => by
    obtain ⟨b, h1, h2, h3, h4⟩ := Hmk.out i x hx
    exact ⟨b, h1, Nat.lt_of_lt_of_le h2 Hmb.out.size, Hmb.out.cell h3 (fun e => e), Hmb.out.cell h4 (fun e => e)⟩) h500).mono ?_
  rintro e wc ⟨mx, rfl, hmc, hmo, hmv⟩
  have hml := hmo.len
  obtain ⟨ma, mb, mc, rfl⟩ := slice_of_own hmo
  rw [List.length_map] at hml
  have hmb' : mb = m9.marks.length := hml
  subst hmb'
  have Hmc := Lib.hid hmc
  have Hmo := Lib.hid hmo
  have Hmv := Lib.hid hmv
  have z3 := hmc.cell (Hmb.out.cell x3 (fun e => e)) (fun e => e)
  clear hmc hmo hmv hml
  go_wp2_with fail
  refine (within_ok Hmo.out.ints (Hgi.out.frame0 Hmc.out) (by rw [List.length_map]; omega) (by omega) HEa.out.within).mono ?_
  rintro e wd ⟨rfl, hmd⟩
  have Hmd := Lib.hid hmd
  have Had := Lib.hid ((Hmb.out.trans0 Hmc.out).trans0 hmd)
  clear hmd z3
  go_wp2_with fail
  have hrs := rest_any (Hxa.out.frame0 Had.out)
  rw [Htop.out] at hrs
  refine hrs.mono ?_
  rintro e we ⟨rfl, hme⟩
  have Hme := Lib.hid hme
  have Hae := Lib.hid (Had.out.trans0 hme)
  clear hrs hme
  cases hrest : m9.rest with
  | false =>
    go_wp2
    go_ret
    exact ⟨rfl, Ha.out.trans0 Hae.out⟩
  | true =>
    by_cases h40 : 40 < (putsAll q).length
    · have d40 : decide ((40 : Int) < ((putsAll q).length : Int)) = true := by simp; omega
      go_wp2
      go_ret
      exact ⟨rfl, Ha.out.trans0 Hae.out⟩
    have d40 : decide ((40 : Int) < ((putsAll q).length : Int)) = false := by simp; omega
    obtain ⟨ch, R, hwin, hcl⟩ := HEa.out.rests hrest (by omega)
    have hchn : 1 ≤ ch.length := List.length_pos_iff.2 R.ne
    have hch64 := R.len
    have hcount := R.count
    have HR := Lib.hid R
    have Hwin := Lib.hid hwin
    have Hcl := Lib.hid hcl
    have Hcount := Lib.hid hcount
    clear R hwin hrest hcount
    go_wp2_with fail
    have htp := top_ok (Hxa.out.frame0 Hae.out) HNa 2 HEa.out.r5 HR.out.hq (by rw [HEa.out.T]; omega)
    rw [Htop.out] at htp
    refine htp.mono ?_
    rintro e wf ⟨⟨tcap, rfl⟩, hmf⟩
    have Hmf := Lib.hid hmf
    have Haf := Lib.hid (Hae.out.trans0 hmf)
    have hw0 := (node_at (Hxa.out.frame0 Haf.out) HR.out.hq).w0
    have hct := chain_ok (Hxa.out.frame0 Haf.out) HNa HR.out
    rw [Htop.out] at hct
    have Hct := Lib.hid hct
    clear htp hmf hct
    go_wp2_with fail
    refine Hct.out.mono ?_
    rintro e wg ⟨cx, rfl, hmg, hco, hcv⟩
    have hcll := hco.len
    rw [List.length_map] at hcll
    have Hmg := Lib.hid hmg
    have Hag := Lib.hid (Haf.out.trans0 hmg)
    rcases hco.2 with ⟨rfl, hz⟩ | ⟨cg, ccap, ccur, rfl, hx0, hx1, hx2, hx3, hx4, hx5⟩
    · rw [List.length_map] at hz; omega
    have Hco := Lib.hid hco
    have Hcv := Lib.hid hcv
    clear hco hcv hmg hx0 hx1 hx4 hx5 hcll hw0 Hct
    rw [List.length_map] at hx2 ⊢
    obtain ⟨i0, hti, hz0, hz1, hz2⟩ := info_parts intInfo'
    obtain ⟨vals, hvals⟩ : ∃ vals, vals = ch.map fun a => (Qg.absM m9).val a 0 := ⟨_, rfl⟩
    have hvl : vals.length = ch.length := by rw [hvals, List.length_map]
    have hcells : ∀ (j : Nat) y, vals.tail[j]? = some y → wg.cell? ⟨cg, j + 1, none⟩ = some (.int .i64 y) := fun j y hj => by
      obtain ⟨a3, c3, e3, -, hx⟩ := Hco.out.ints.at_
      rw [← hvals] at hx
      have hj' : vals[j + 1]? = some y := by simpa [List.getElem?_tail] using hj
      obtain ⟨b3, o3, e4, -, hc3⟩ := hx (j + 1) y hj'
      cases e3; cases e4
      simpa using hc3
    have htl : (vals.tail.map (Value.int .i64)).length = (ch.length - 1) * 1 := by simp [hvl]
    have hone : ∀ u ∈ vals.tail.map (Value.int .i64), u.oneCell' = true := fun u hu => by
      obtain ⟨y, _, rfl⟩ := List.mem_map.1 hu; rfl
    have hmog : wg.ownsRow 0 3 1 (.slice ma m9.marks.length mc) m9.marks.length ((m9.marks.map (·.2)).map (Value.int .i64)) := by
      have := (Hmo.out.keep ((Hmd.out.trans0 Hme.out).trans0 (Hmf.out.trans0 Hmg.out)) (fun _ _ e => e))
      unfold IOwn at this
      rw [List.length_map] at this
      exact this
    have hbnd : m9.marks.length + (ch.length - 1) ≤ maxLen := by unfold maxLen; omega
    have Htl := Lib.hid htl
    have Hcells := Lib.hid hcells
    have Hone := Lib.hid hone
    have Hmog := Lib.hid hmog
    have Hvals := Lib.hid hvals
    have Hvl := Lib.hid hvl
    clear htl hcells hone hmog hvals hvl
    by_cases hc1 : ccap = 1
    · have hc2 : ccap - 1 = 0 := by omega
      go_wp2_with (at_builtin; refine wpList_append_mine _ rfl (.tmp 113) (.tmp 115) 23 rfl 3 i0 (.int .i64 0) 1 8 Tryd.underlying23 hti hz0 hz1 hz2 rfl (by decide) _ m9.marks.length ((m9.marks.map (·.2)).map (Value.int .i64)) rfl (by exact Hmog.out) ⟨cg, 0, none⟩ (ch.length - 1) 0 (vals.tail.map (Value.int .i64)) rfl Htl.out (fun j u hj => by
          have := Hvl.out
          have h0 : vals.tail = [] := List.eq_nil_of_length_eq_zero (by rw [List.length_tail]; omega)
          rw [h0] at hj; simp at hj) Hone.out hbnd (by omega) ?_; intro v4 w7 hown hgr hfr _; obtain ⟨ya, yb, yc, rfl⟩ := slice_of_own hown; have hyb := (own_len hown).trans hcl; subst hyb; have Hown4 := Lib.hid hown; have Hgr := Lib.hid hgr; have Hfr := Lib.hid hfr; clear hown hgr hfr)
      have hm7 : Mod noF wa w7 := Hag.out.trans ((Mod.refl (fun x => (Value.slice ma m9.marks.length mc).ownBlock = some x) wg).grown Hgr.out fun j hj _ => hj) fun x hx e => by
        have := Hmv.out x e
        have := Hmb.out.size
        omega
      have hio : IOwn w7 (.slice ya (putsAll q).length yc) (m9.marks.map (·.2) ++ vals.tail) := by
        have h := Hown4.out
        rw [hcl, ← List.map_append] at h
        unfold IOwn
        have e : (m9.marks.map (·.2) ++ vals.tail).length = (putsAll q).length := by
          have := Hvl.out
          rw [List.length_append, List.length_map, List.length_tail]; omega
        rw [e]; exact h
      have hbw : Mod noF wb w7 := ((Hmc.out.trans0 (Hmd.out.trans0 Hme.out)).trans0 (Hmf.out.trans0 Hmg.out)).trans ((Mod.refl (fun x => (Value.slice ma m9.marks.length mc).ownBlock = some x) wg).grown Hgr.out fun j hj _ => hj) fun x hx e => by
        have := Hmv.out x e
        omega
      have hgi7 : IntsAt w7 (.slice ga (putsAll q).length gc) (putsAll q) := Hgi.out.frame0 hbw
      clear hbw
      have hwin := Hwin.out
      rw [← Hvals.out] at hwin
      have hll : (m9.marks.map (·.2) ++ vals.tail).length ≤ 1000 := by
        have := Hvl.out
        rw [List.length_append, List.length_map, List.length_tail]; omega
      refine (within_ok hio.ints hgi7 hll (by omega) hwin).mono ?_
      rintro e w8' ⟨rfl, hm8⟩
      have hq8 := hm7.trans0 hm8
      have z0 := hq8.cell x0 (fun e => e)
      have hct := countQ_any (Hxa.out.frame0 hq8).rep rfl rfl (Hxa.out.frame0 hq8).om (Hxa.out.frame0 hq8).ol
      rw [countQ_count, Hcount.out] at hct
      have Hct := Lib.hid hct
      have Hq8 := Lib.hid hq8
      clear hct hq8 hm8 hm7 hio hgi7 hwin
      go_wp2_with fail
      refine Hct.out.mono ?_
      rintro e w9' ⟨rfl, hm9⟩
      have Hm9 := Lib.hid hm9
      clear hm9
      have e9 : ((1 : Int) + (ch.length : Int) == 2 + (ch.length : Int) - 1) = true := by simp; omega
      have e10 : (1 : Int) + (ch.length : Int) = 2 + (ch.length : Int) - 1 := by omega
      go_wp2
      go_ret
      exact ⟨rfl, Ha.out.trans0 (Hq8.out.trans0 Hm9.out)⟩
    · have hc2 : ¬ ccap - 1 = 0 := by omega
      go_wp2_with (at_builtin; refine wpList_append_mine _ rfl (.tmp 113) (.tmp 115) 23 rfl 3 i0 (.int .i64 0) 1 8 Tryd.underlying23 hti hz0 hz1 hz2 rfl (by decide) _ m9.marks.length ((m9.marks.map (·.2)).map (Value.int .i64)) rfl (by exact Hmog.out) ⟨cg, 1, none⟩ (ch.length - 1) (ccap - 1) (vals.tail.map (Value.int .i64)) rfl Htl.out (fun j u hj => by
          rw [List.getElem?_map] at hj
          obtain ⟨y, hy, rfl⟩ := Option.map_eq_some_iff.1 hj
          have hadd : (⟨cg, 1, none⟩ : Addr).add j = ⟨cg, j + 1, none⟩ := by unfold Addr.add; split <;> simp_all [Nat.add_comm]
          rw [hadd]; exact Hcells.out j y hy) Hone.out hbnd (by omega) ?_; intro v4 w7 hown hgr hfr _; obtain ⟨ya, yb, yc, rfl⟩ := slice_of_own hown; have hyb := (own_len hown).trans hcl; subst hyb; have Hown4 := Lib.hid hown; have Hgr := Lib.hid hgr; have Hfr := Lib.hid hfr; clear hown hgr hfr)
      have hm7 : Mod noF wa w7 := Hag.out.trans ((Mod.refl (fun x => (Value.slice ma m9.marks.length mc).ownBlock = some x) wg).grown Hgr.out fun j hj _ => hj) fun x hx e => by
        have := Hmv.out x e
        have := Hmb.out.size
        omega
      have hio : IOwn w7 (.slice ya (putsAll q).length yc) (m9.marks.map (·.2) ++ vals.tail) := by
        have h := Hown4.out
        rw [hcl, ← List.map_append] at h
        unfold IOwn
        have e : (m9.marks.map (·.2) ++ vals.tail).length = (putsAll q).length := by
          have := Hvl.out
          rw [List.length_append, List.length_map, List.length_tail]; omega
        rw [e]; exact h
      have hbw : Mod noF wb w7 := ((Hmc.out.trans0 (Hmd.out.trans0 Hme.out)).trans0 (Hmf.out.trans0 Hmg.out)).trans ((Mod.refl (fun x => (Value.slice ma m9.marks.length mc).ownBlock = some x) wg).grown Hgr.out fun j hj _ => hj) fun x hx e => by
        have := Hmv.out x e
        omega
      have hgi7 : IntsAt w7 (.slice ga (putsAll q).length gc) (putsAll q) := Hgi.out.frame0 hbw
      clear hbw
      have hwin := Hwin.out
      rw [← Hvals.out] at hwin
      have hll : (m9.marks.map (·.2) ++ vals.tail).length ≤ 1000 := by
        have := Hvl.out
        rw [List.length_append, List.length_map, List.length_tail]; omega
      refine (within_ok hio.ints hgi7 hll (by omega) hwin).mono ?_
      rintro e w8' ⟨rfl, hm8⟩
      have hq8 := hm7.trans0 hm8
      have z0 := hq8.cell x0 (fun e => e)
      have hct := countQ_any (Hxa.out.frame0 hq8).rep rfl rfl (Hxa.out.frame0 hq8).om (Hxa.out.frame0 hq8).ol
      rw [countQ_count, Hcount.out] at hct
      have Hct := Lib.hid hct
      have Hq8 := Lib.hid hq8
      clear hct hq8 hm8 hm7 hio hgi7 hwin
      go_wp2_with fail
      refine Hct.out.mono ?_
      rintro e w9' ⟨rfl, hm9⟩
      have Hm9 := Lib.hid hm9
      clear hm9
      have e9 : ((1 : Int) + (ch.length : Int) == 2 + (ch.length : Int) - 1) = true := by simp; omega
      have e10 : (1 : Int) + (ch.length : Int) = 2 + (ch.length : Int) - 1 := by omega
      go_wp2
      go_ret
      exact ⟨rfl, Ha.out.trans0 (Hq8.out.trans0 Hm9.out)⟩
end Go.Proofs.YtppihkneeolomaaDoor
end
/- quiescentlaw3.QueueSafe, whatever comes. -/
section
namespace Go.Proofs.YtppihkneeolomaaDoor
open Go.RowKit Qs Qh
def toQ (x : ROp) : Qu.Op := if x.1 = putS then .put x.2 else .take
theorem toQ_ok {x : ROp} (h : kfOp x = 0) : opR (toQ x) = x ∧ ∀ n, toQ x = .put n → 1 ≤ n ∧ n ≤ 1000 := by
  obtain ⟨a, n⟩ := x
  unfold kfOp at h
  unfold toQ
  simp only at h ⊢
  by_cases e : a = putS
  · rw [if_pos e] at h ⊢
    subst e
    refine ⟨rfl, fun k hk => ?_⟩
    cases hk
    by_cases hb : n < 1 ∨ 1000 < n
    · rw [if_pos hb] at h; cases h
    · omega
  · rw [if_neg e] at h ⊢
    by_cases hb : a = takeS ∧ n = 0
    · obtain ⟨rfl, rfl⟩ := hb
      exact ⟨rfl, fun k hk => by cases hk⟩
    · rw [if_neg hb] at h; cases h
theorem rowF_zero {l : List ROp} (h : rowF l = none) : ∀ x ∈ l, kfOp x = 0 := fun x hx => by
  unfold rowF at h
  rw [List.find?_eq_none] at h
  have := h (kfOp x) (List.mem_map.2 ⟨x, hx, rfl⟩)
  simpa using this
theorem rowF_ne {l : List ROp} {c : Int} (h : rowF l = some c) : c ≠ 0 := by
  unfold rowF at h
  have := List.find?_some h
  simpa using this
theorem allF_zero : ∀ (ll : List (List ROp)) (i : Nat), (allF i ll).1 = 0 → ∀ l ∈ ll, rowF l = none
  | [], i, _ => fun l hl => by cases hl
  | y :: ll, i, h => fun l hl => by
    unfold allF at h
    cases hr : rowF y with
    | some c => rw [hr] at h; exact absurd h (rowF_ne hr)
    | none =>
      rw [hr] at h
      rcases List.mem_cons.1 hl with rfl | hl
      · exact hr
      · exact allF_zero ll (i + 1) h l hl
theorem kfOp_pos (x : ROp) : 0 ≤ kfOp x := by
  unfold kfOp
  split
  · split <;> decide
  · split <;> decide
theorem kf_pos (ll : List (List ROp)) : 0 ≤ (kf ll).1 := by
  unfold kf
  split
  · have : ∀ (ll : List (List ROp)) (i : Nat), 0 ≤ (allF i ll).1 := by
      intro ll
      induction ll with
      | nil => intro i; exact Int.le_refl 0
      | cons y ll ih =>
        intro i
        unfold allF
        cases hr : rowF y with
        | none => exact ih (i + 1)
        | some c =>
          unfold rowF at hr
          obtain ⟨x, _, rfl⟩ := List.mem_map.1 (List.mem_of_find?_eq_some hr)
          exact kfOp_pos x
    exact this ll 0
  · decide
theorem good_raw {ll : List (List ROp)} (h : (kf ll).1 = 0) : ∃ q : List (List Qu.Op), ll = rawOf q ∧ 1 ≤ q.length ∧ q.length ≤ 6 ∧ (∀ l ∈ q, l.length ≤ 20) ∧ ∀ l ∈ q, ∀ n, Qu.Op.put n ∈ l → 1 ≤ n ∧ n ≤ 1000 := by
  unfold kf at h
  cases hm : manyB ll with
  | false => rw [hm] at h; cases h
  | true =>
    rw [hm] at h
    have hz := allF_zero ll 0 h
    unfold manyB at hm
    simp only [Bool.and_eq_true, decide_eq_true_eq, List.all_eq_true] at hm
    obtain ⟨⟨h1, h6⟩, h20⟩ := hm
    refine ⟨ll.map (·.map toQ), ?_, by simpa using h1, by simpa using h6, fun l hl => ?_, fun l hl n hn => ?_⟩
    · unfold rawOf
      rw [List.map_map]
      conv => lhs; rw [← List.map_id ll]
      refine List.map_congr_left fun l hl => ?_
      show l = (l.map toQ).map opR
      rw [List.map_map]
      conv => lhs; rw [← List.map_id l]
      exact List.map_congr_left fun x hx => (toQ_ok (rowF_zero (hz l hl) x hx)).1.symm
    · obtain ⟨l', hl', rfl⟩ := List.mem_map.1 hl
      rw [List.length_map]
      exact h20 l' hl'
    · obtain ⟨l', hl', rfl⟩ := List.mem_map.1 hl
      obtain ⟨x, hx, e⟩ := List.mem_map.1 hn
      exact (toQ_ok (rowF_zero (hz l' hl') x hx)).2 n e
set_option maxHeartbeats 8000000 in
theorem safe_mod {N : Nat} (ll : List (List ROp)) (v vs : Value) (s : List Int) (w : World) (H : RIn N w v ll) (hnil : NilOk w v) (hN : N ≤ w.heap.size) (hll : ll.length ≤ maxLen) (hrl : ∀ l ∈ ll, l.length ≤ maxLen)
    (hl : IntsAt w vs s) (hlw : ∀ x ∈ s, -9223372036854775808 ≤ x ∧ x ≤ 9223372036854775807) (hvb : s ≠ [] → ∀ b, vs.ownBlock = some b → b < w.heap.size) :
    Calls Tryd.prog 3 #[v, vs] w fun e w' => e = .returned (.bool true) ∧ Mod noF w w' := by
  by_cases hg : longB ll = false ∧ s.length ≤ 3000 ∧ (kf ll).1 = 0
  · obtain ⟨g1, g2, g3⟩ := hg
    obtain ⟨q, rfl, h1, h6, h20, hp⟩ := good_raw g3
    exact safe_good q v vs s w H hnil hN h1 h6 h20 hp g1 g3 hl g2 hlw hvb
  · have HH := Lib.hid H
    have hlg := fun w' (hm : Mod noF w w') => long_any (H.keep hm (fun _ _ e => e)) hll hrl
    have Hlg := Lib.hid hlg
    obtain ⟨va, vc, rfl, -⟩ := hl.at_
    obtain ⟨oa, oc, rfl, -⟩ := H
    clear hl hlw hvb hnil hlg
    cases hL : longB ll with
    | true =>
      rw [hL] at Hlg
      go_enter Tryd.func3, Tryd.ntmps3
      go_wp2_with fail
      refine (lined_ok _).mono ?_
      rintro e w1 ⟨rfl, hm1⟩
      have Hm1 := Lib.hid hm1
      clear hm1
      go_wp2_with fail
      refine (Hlg.out _ Hm1.out).mono ?_
      rintro e w1 ⟨rfl, rfl⟩
      go_wp2
      go_ret
      exact ⟨rfl, Hm1.out⟩
    | false =>
      rw [hL] at Hlg
      by_cases c3 : 3000 < s.length
      · have d3 : decide ((3000 : Int) < (s.length : Int)) = true := by simp; omega
        go_enter Tryd.func3, Tryd.ntmps3
        go_wp2_with fail
        refine (lined_ok _).mono ?_
        rintro e w1 ⟨rfl, hm1⟩
        have Hm1 := Lib.hid hm1
        clear hm1
        go_wp2_with fail
        refine (Hlg.out _ Hm1.out).mono ?_
        rintro e w1 ⟨rfl, rfl⟩
        go_wp2
        go_ret
        exact ⟨rfl, Hm1.out⟩
      · have d3 : decide ((3000 : Int) < (s.length : Int)) = false := by simp; omega
        have hk := kf_pos ll
        have hk2 : (kf ll).1 ≠ 0 := fun e => hg ⟨hL, by omega, e⟩
        have hff := faultField
        have h10 : ll.length ≤ 10 ∧ ∀ l ∈ ll, l.length ≤ 30 := by
          unfold longB at hL
          simp only [Bool.or_eq_false_iff, decide_eq_false_iff_not] at hL
          refine ⟨by omega, fun l hl => rowLong_false ?_⟩
          have := List.any_eq_false.1 hL.2 l hl
          simpa using this
        have hki := fun w' (hm : Mod noF w w') (g : Nat) (hg : w'.cell? ⟨g, 0, none⟩ = some (.string takeS)) => kinds_any (HH.out.keep hm (fun _ _ e => e)) h10.1 h10.2 g hg
        have dk : decide ((0 : Int) < (kf ll).1) = true := by simp; omega
        generalize (kf ll).1 = kc at *
        generalize (kf ll).2 = ka at *
        have Hki := Lib.hid hki
        clear hki h10 hL hg
        go_enter Tryd.func3, Tryd.ntmps3
        go_wp2_with fail
        refine (lined_ok _).mono ?_
        rintro e w1 ⟨rfl, hm1⟩
        have Hm1 := Lib.hid hm1
        clear hm1
        go_wp2_with fail
        refine (Hlg.out _ Hm1.out).mono ?_
        rintro e w1 ⟨rfl, rfl⟩
        go_wp2_with fail
        refine (Hki.out _ (Hm1.out.alloc _) w1.heap.size (by simp [takeS])).mono ?_
        rintro e w2 ⟨rfl, hm2⟩
        have Hm2 := Lib.hid hm2
        clear hm2
        go_wp2
        go_ret
        exact ⟨rfl, (Hm1.out.alloc _).trans0 Hm2.out⟩
end Go.Proofs.YtppihkneeolomaaDoor
end
/- Lists of lists of ops that came in. -/
section
namespace Go.Proofs.YtppihkneeolomaaDoor
open Go.ChangeShapes Go.WideShapes Go.ChangeAt Go.RowKit Qh
def opVals (x : ROp) : List Value := [.string x.1, .int .i64 x.2]
theorem opLen2 {l : List Value} (h : l.length = 2) : ∃ c0 c1 : Value, l = [c0, c1] := by
  match l, h with
  | [c0, c1], _ => exact ⟨c0, c1, rfl⟩
theorem Op_read {H : Type} {enc : TypeId × Value → H} {W : World} (n : Nat) (cs : List Value) (y : DataW H × List MemPlace) (h : DataW.trod enc Tryd.prog W 0 (fun _ => true) true n 63 cs = some y) : ∃ x : ROp, cs = opVals x ∧ True := by
  obtain ⟨xs, n', rfl, _, hlen, hxl, hf⟩ := DataW.trod_struct Tryd.underlying63 h
  rw [show Tryd.prog.cellsOf 63 = 2 by kernel_rfl] at hlen
  have k1 : Tryd.prog.cellsOf 3 = 1 := by kernel_rfl
  have k9 : Tryd.prog.cellsOf 9 = 1 := by kernel_rfl
  obtain ⟨c0, c1, rfl⟩ := opLen2 hlen
  have h0 := hf 0 ⟨"Kind", 9, 0, false, "", "", 0⟩ rfl
  rw [List.getElem?_eq_getElem (show 0 < xs.length by rw [hxl]; decide)] at h0
  obtain ⟨s0, e0, _, o0⟩ := DataW.trod_string Tryd.underlying9 h0
  simp only [k9, List.drop_succ_cons, List.drop_zero, List.take_succ_cons, List.take_zero, List.cons.injEq, and_true] at e0
  subst e0
  have h1 := hf 1 ⟨"N", 3, 1, false, "", "", 16⟩ rfl
  rw [List.getElem?_eq_getElem (show 1 < xs.length by rw [hxl]; decide)] at h1
  obtain ⟨s1, e1, _, o1⟩ := DataW.trod_int Tryd.underlying3 h1
  simp only [k1, List.drop_succ_cons, List.drop_zero, List.take_succ_cons, List.take_zero, List.cons.injEq, and_true] at e1
  subst e1
  exact ⟨⟨s0, s1⟩, rfl, trivial⟩
def OpsOk (W : World) (u : Value) : Prop := ∃ a l c z, u = .slice a l c ∧ RowsAt opVals 2 W (.slice a l c) z
theorem Row_read {H : Type} {enc : TypeId × Value → H} {W : World} (n : Nat) (cs : List Value) (y : DataW H × List MemPlace) (h : DataW.trod enc Tryd.prog W 0 (fun _ => true) true n 59 cs = some y) : ∃ u : Value, cs = [u] ∧ OpsOk W u := by
  rcases Go.Deep.open_slice Tryd.underlying59 h with ⟨hcs, _⟩ | ⟨A, l, c, m, n', D, Pl, hcs, _, hl, hm, hmm, _, hel⟩
  · exact ⟨.slice none 0 0, hcs, none, 0, 0, [], rfl, none, 0, rfl, by simp, by simp, fun _ => rfl, fun i x h => by simp at h⟩
  · subst hcs
    obtain ⟨z, hz, _⟩ := rowsAt_of (k := 2) (vals := opVals) (good := fun _ => True) (a := some A) (len := l) (cap := c) (by decide) Tryd.underlying59 (by kernel_rfl) Op_read (⟨n, h⟩ : DataW.Trod enc Tryd.prog W 0 (fun _ => true) true 59 (.slice (some A) l c) y.1 y.2)
    exact ⟨_, rfl, _, _, _, z, rfl, hz⟩
/-- Lists of lists of ops, as they come in. -/
def IsOps (w : World) (a : Option Addr) (len cap : Nat) (z : List (List ROp)) : Prop :=
  RIn w.heap.size w (.slice a len cap) z ∧ NilOk w (.slice a len cap) ∧ z.length ≤ maxLen ∧ ∀ l ∈ z, l.length ≤ maxLen
theorem isOps_of {H : Type} {enc : TypeId × Value → H} {W : World} {a : Option Addr} {len cap : Nat} {d : DataW H} {p : List MemPlace} (h : DataW.Trod enc Tryd.prog W 0 (fun _ => true) true 22 (.slice a len cap) d p) : ∃ z, IsOps W a len cap z := by
  obtain ⟨us, ⟨a', c', e', hlc, hcm, hn, hx⟩, hg⟩ := rowsAt_of (k := 1) (vals := fun u : Value => [u]) (good := OpsOk W) (by decide) Tryd.underlying22 (by kernel_rfl) Row_read h
  cases e'
  have hch : ∀ u, ∃ z : List ROp, u ∈ us → ∃ a l c, u = .slice a l c ∧ RowsAt opVals 2 W (.slice a l c) z := fun u => by
    by_cases hu : u ∈ us
    · obtain ⟨a, l, c, z, e, hz⟩ := hg u hu
      exact ⟨z, fun _ => ⟨a, l, c, e, hz⟩⟩
    · exact ⟨[], fun h => absurd h hu⟩
  let f := fun u => Classical.choose (hch u)
  have hf : ∀ u ∈ us, ∃ a l c, u = .slice a l c ∧ RowsAt opVals 2 W (.slice a l c) (f u) := fun u hu => Classical.choose_spec (hch u) hu
  have hat : ∀ (i : Nat) u, us[i]? = some u → ∃ b off, a = some ⟨b, off, none⟩ ∧ b < W.heap.size ∧ W.cell? ⟨b, off + i, none⟩ = some u := fun i u hi => by
    obtain ⟨b, off, e, hb, hc⟩ := hx i u hi
    refine ⟨b, off, e, hb, ?_⟩
    have := hc 0 u rfl
    rw [show off + i * 1 + 0 = off + i by omega] at this
    exact this
  refine ⟨us.map f, ⟨a, cap, by rw [List.length_map], fun i l hi => ?_⟩, fun b off n m i k c e hi hc => ?_, by rw [List.length_map]; omega, fun l hl => ?_⟩
  · rw [List.getElem?_map] at hi
    obtain ⟨u, hu, rfl⟩ := Option.map_eq_some_iff.1 hi
    obtain ⟨b, off, e, hb, hc⟩ := hat i u hu
    obtain ⟨ua, ul, uc, rfl, a2, c2, e2, h1, h2, h3, hxx⟩ := hf u (List.mem_of_getElem? hu)
    refine ⟨b, off, _, e, hb, hc, a2, c2, e2, fun j x hj => ?_⟩
    obtain ⟨b2, off2, e3, hb2, hc2⟩ := hxx j x hj
    exact ⟨b2, off2, e3, hb2, hc2 0 _ rfl, hc2 1 _ rfl⟩
  · cases e
    obtain ⟨u, hu⟩ : ∃ u, us[i]? = some u := ⟨_, List.getElem?_eq_getElem hi⟩
    obtain ⟨b2, off2, e, hb, hc'⟩ := hat i u hu
    cases e
    rw [hc] at hc'
    cases hc'
    obtain ⟨ua, ul, uc, e1, a2, c2, e2, h1, h2, h3, hxx⟩ := hf _ (List.mem_of_getElem? hu)
    cases e1
    have e3 := e2
    simp only [Value.slice.injEq] at e3
    exact e3.2.2.trans (h3 e3.1.symm)
  · obtain ⟨u, hu, rfl⟩ := List.mem_map.1 hl
    obtain ⟨ua, ul, uc, rfl, a2, c2, e2, h1, h2, h3, hxx⟩ := hf u hu
    omega
end Go.Proofs.YtppihkneeolomaaDoor
end
/- QueueSafe: its walk, as its frame asks for it. -/
section
namespace Go.Proofs.YtppihkneeolomaaDoor
open Go.RowKit Qs Qh
theorem queueSafe_any (a0 : Option Addr) (len0 cap0 : Nat) (z0 : List (List ROp)) (a1 : Option Addr) (len1 cap1 : Nat) (z1 : List Int) (w : World) (h0 : IsOps w a0 len0 cap0 z0) (h : IsRow .i64 w a1 len1 cap1 z1) :
    Calls Tryd.prog 3 #[.slice a0 len0 cap0, .slice a1 len1 cap1] w fun e w' => e = .returned (.bool true) ∧ Below w.heap.size w w' := by
  obtain ⟨l, hl, hlw, hvb⟩ := h.ints
  obtain ⟨H, hnil, h1, h2⟩ := h0
  exact (safe_mod z0 _ _ l w H hnil (Nat.le_refl _) h1 h2 hl hlw hvb).mono fun e w' ⟨he, hm⟩ => ⟨he, hm.under (Nat.le_refl _) fun k hk => hk.elim⟩
end Go.Proofs.YtppihkneeolomaaDoor
end
