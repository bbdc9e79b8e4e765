/- quiescentref1.rightWords, StartFault, where all is right. -/
import Derived.Test.YtamfbfajlfbooaaDoorQCodeFault
import Derived.Test.YtamfbfajlfbooaaDoorQm2
import Derived.Test.YtamfbfajlfbooaaDoorQm3
set_option linter.unusedVariables false
set_option linter.unusedSimpArgs false
set_option linter.unusedSectionVars false
namespace Go.Proofs.YtamfbfajlfbooaaDoor
open Go.RowKit Qs Qh
theorem rightWords_ok (v : Value) (l : List Int) (most : Nat) (w : World) (h : IntsAt w v l) (hw : ∀ x ∈ l, isWord x = true) (hm : l.length ≤ most) (hm2 : most ≤ 1000) :
    Calls Tryd.prog 86 #[v, .int .i64 most] w fun e w' => e = .returned (.bool true) ∧ w = w' := by
  obtain ⟨a, c, rfl, hc, hx⟩ := h.at_
  have Hx := Lib.hid hx
  have Hw := Lib.hid hw
  clear hx hw h hc
  go_enter Tryd.func86, Tryd.ntmps86
  go_wp2
  go_loop [5] (fun i => ∃ k : Nat, k ≤ l.length ∧ i = .int .i64 k) (fun i => l.length - (intOf i).toNat)
  case atStart => exact ⟨0, Nat.zero_le _, rfl⟩
  case round =>
    obtain ⟨k, hk, rfl⟩ := hrel
    by_cases hlt : k < l.length
    · have hd : decide ((k : Int) < (l.length : Int)) = true := by simp; omega
      obtain ⟨x, hxk⟩ : ∃ x, l[k]? = some x := ⟨_, List.getElem?_eq_getElem hlt⟩
      obtain ⟨b, off, rfl, hb, hcell⟩ := Hx.out k x hxk
      have hwx := Hw.out x (List.mem_of_getElem? hxk)
      have Hwx := Lib.hid hwx
      clear hwx hxk
      go_wp2_with (go_at_call 31; refine (isWord_any _ _).mono ?_; rintro e w' ⟨rfl, rfl⟩; rw [Hwx.out])
      go_round
      case rel => exact ⟨k + 1, by omega, by go_num⟩
      case measure => simp [intOf]; omega
    · have hd : decide ((k : Int) < (l.length : Int)) = false := by simp; omega
      have hd2 : decide ((l.length : Int) ≤ (most : Int)) = true := by simp; omega
      go_wp2
      go_ret
      exact ⟨ret_bool (by first | (simp; done) | (simp; omega)), rfl⟩
theorem start_box (w : World) (a b : Obj) : ((w.alloc a).alloc b).heap[w.heap.size]? = some a :=
  (Below.heap_alloc (w.alloc a) b _ (lt_of_block (heap_alloc_new w a))).trans (heap_alloc_new w a)
theorem start_res (w : World) (a b : Obj) : ((w.alloc a).alloc b).heap[w.heap.size + 1]? = some b := by
  have h0 := heap_alloc_new (w.alloc a) b
  simpa using h0
/-- What StartFault's loops keep. -/
def StartRel (w : World) (n : Nat) (iw rw_ : Value) (wr : World) : Prop :=
  Mod noF w wr ∧ wr.heap[w.heap.size]? = some (.cells #[.int .i64 n, iw, rw_] 26 (0, 0)) ∧ wr.heap[w.heap.size + 1]? = some (.cells #[.int .i64 0, .int .i64 0] 32 (0, 0))
set_option maxRecDepth 100000 in
set_option maxHeartbeats 4000000 in
theorem startFault_ok (n : Nat) (iw rw_ cw : Value) (init regs : List (List Int)) (codes : List (List Instr)) (cv : Nat → Value) (w : World) (hI : RowsAt w iw init) (hR : RowsAt w rw_ regs) (hC : CodesAt w cw codes cv)
    (h1 : 1 ≤ n) (hn : n ≤ 64) (hc1 : 1 ≤ codes.length) (hc6 : codes.length ≤ 6) (hin : init.length ≤ n) (hrc : regs.length ≤ codes.length) (hi : RowsFine 4 init) (hr : RowsFine 8 regs) (hf : ∀ c ∈ codes, CodeFine c) :
    Calls Tryd.prog 22 #[.agg #[.int .i64 n, iw, rw_], cw] w fun e w' => e = .returned (.agg #[.int .i64 0, .int .i64 (-1)]) ∧ Mod noF w w' := by
  have HI := Lib.hid hI
  have HR := Lib.hid hR
  have HC := Lib.hid hC
  have Hi := Lib.hid hi
  have Hr := Lib.hid hr
  have Hf := Lib.hid hf
  obtain ⟨ia, ic, rfl, _⟩ := hI
  obtain ⟨ra, rc, rfl, _⟩ := hR
  obtain ⟨ca, cc, rfl, _⟩ := hC
  have d0 : decide ((n : Int) < 1) = false := by simp; omega
  have d1 : decide ((64 : Int) < (n : Int)) = false := by simp; omega
  have d2 : decide ((codes.length : Int) < 1) = false := by simp; omega
  have d3 : decide ((6 : Int) < (codes.length : Int)) = false := by simp; omega
  have d4 : ¬ n < init.length := by omega
  have d5 : ¬ codes.length < regs.length := by omega
  clear hi hr hf
  go_enter Tryd.func22, Tryd.ntmps22
  go_wp2
  go_loopw [5, 6] (fun i _ wr => ∃ k : Nat, k ≤ init.length ∧ i = .int .i64 k ∧ StartRel w n (.slice ia init.length ic) (.slice ra regs.length rc) wr) (fun i _ _ => init.length - (intOf i).toNat)
  case atStart => exact ⟨0, Nat.zero_le _, rfl, ((Mod.refl noF w).alloc _).alloc _, start_box w _ _, start_res w _ _⟩
  case round =>
    obtain ⟨k, hk, rfl, hm, hbox, hres⟩ := hrel
    have b1 : wr.cell? ⟨w.heap.size, 1, none⟩ = some (.slice ia init.length ic) := by rw [cell_of_heap hbox]; rfl
    have hsz := lt_of_block hres
    have HS := Lib.hid (show StartRel w n (.slice ia init.length ic) (.slice ra regs.length rc) wr from ⟨hm, hbox, hres⟩)
    by_cases hlt : k < init.length
    · have hd : decide ((k : Int) < (init.length : Int)) = true := by simp; omega
      obtain ⟨l, hl⟩ : ∃ l, init[k]? = some l := ⟨_, List.getElem?_eq_getElem hlt⟩
      obtain ⟨ia', ic', e', hrow⟩ := HI.out.keep hm.toBelow
      cases e'
      obtain ⟨ib, ioff, u, rfl, hib, hu, hints, _⟩ := hrow k l hl
      have hfl := Hi.out l (List.mem_of_getElem? hl)
      have hcall := rightWords_ok u l 4 wr hints hfl.2 hfl.1 (by omega)
      have Hcall := Lib.hid hcall
      clear hm hbox hres hl hrow hints hfl hcall
      go_wp2_with fail
      refine Hcall.out.mono ?_
      rintro e w' ⟨rfl, rfl⟩
      go_wp2
      go_roundw
      case rel => exact ⟨k + 1, by omega, by go_num, HS.out⟩
      case measure => simp [intOf]; omega
    · have hd : decide ((k : Int) < (init.length : Int)) = false := by simp; omega
      clear hm hbox hres
      go_wp2
      clear b1 hsz
      go_loopw [7, 8] (fun i _ wr => ∃ k : Nat, k ≤ regs.length ∧ i = .int .i64 k ∧ StartRel w n (.slice ia init.length ic) (.slice ra regs.length rc) wr) (fun i _ _ => regs.length - (intOf i).toNat)
      case atStart => exact ⟨0, Nat.zero_le _, rfl, HS.out⟩
      case round =>
        obtain ⟨k, hk, rfl, hm, hbox, hres⟩ := hrel
        have b2 : wr.cell? ⟨w.heap.size, 2, none⟩ = some (.slice ra regs.length rc) := by rw [cell_of_heap hbox]; rfl
        have hsz := lt_of_block hres
        have HS := Lib.hid (show StartRel w n (.slice ia init.length ic) (.slice ra regs.length rc) wr from ⟨hm, hbox, hres⟩)
        by_cases hlt : k < regs.length
        · have hd : decide ((k : Int) < (regs.length : Int)) = true := by simp; omega
          obtain ⟨l, hl⟩ : ∃ l, regs[k]? = some l := ⟨_, List.getElem?_eq_getElem hlt⟩
          obtain ⟨ra', rc', e', hrow⟩ := HR.out.keep hm.toBelow
          cases e'
          obtain ⟨rb, roff, u, rfl, hrb, hu, hints, _⟩ := hrow k l hl
          have hfl := Hr.out l (List.mem_of_getElem? hl)
          have hcall := rightWords_ok u l 8 wr hints hfl.2 hfl.1 (by omega)
          have Hcall := Lib.hid hcall
          clear hm hbox hres hl hrow hints hfl hcall
          go_wp2_with fail
          refine Hcall.out.mono ?_
          rintro e w' ⟨rfl, rfl⟩
          go_wp2
          go_roundw
          case rel => exact ⟨k + 1, by omega, by go_num, HS.out⟩
          case measure => simp [intOf]; omega
        · have hd : decide ((k : Int) < (regs.length : Int)) = false := by simp; omega
          clear hm hbox hres
          go_wp2
          clear b2 hsz
          go_loopw [9, 10] (fun i _ wr => ∃ k : Nat, k ≤ codes.length ∧ i = .int .i64 k ∧ StartRel w n (.slice ia init.length ic) (.slice ra regs.length rc) wr) (fun i _ _ => codes.length - (intOf i).toNat)
          case atStart => exact ⟨0, Nat.zero_le _, rfl, HS.out⟩
          case round =>
            obtain ⟨k, hk, rfl, hm, hbox, hres⟩ := hrel
            have hsz := lt_of_block hres
            have Hm := Lib.hid hm
            have Hbox := Lib.hid hbox
            have Hres := Lib.hid hres
            by_cases hlt : k < codes.length
            · have hd : decide ((k : Int) < (codes.length : Int)) = true := by simp; omega
              obtain ⟨c, hc⟩ : ∃ c, codes[k]? = some c := ⟨_, List.getElem?_eq_getElem hlt⟩
              obtain ⟨ca', cc', e', hrow⟩ := HC.out.keep hm.toBelow
              cases e'
              obtain ⟨cb, coff, rfl, hcb, hcc, hcode, _⟩ := hrow k c hc
              have hcall := codeFault_ok (cv k) c wr hcode (Hf.out c (List.mem_of_getElem? hc))
              have Hcall := Lib.hid hcall
              clear hm hbox hres hc hrow hcode hcall
              go_wp2_with fail
              refine Hcall.out.mono ?_
              rintro e w5 ⟨rfl, hm5⟩
              have hs5 := hm5.size
              have Hm5 := Lib.hid hm5
              clear hm5
              go_wp2
              go_roundw
              case rel =>
                have hM : Mod noF wr _ := (Hm5.out.alloc (.cells #[.int .i64 0, .int .i64 (-1)] 32))
                exact ⟨k + 1, by omega, by go_num, Hm.out.trans0 hM, hM.heap Hbox.out (fun e => e), hM.heap Hres.out (fun e => e)⟩
              case measure => simp [intOf]; omega
            · have hd : decide ((k : Int) < (codes.length : Int)) = false := by simp; omega
              clear hm hbox hres
              go_wp2_with fail
              refine (fine_any _).mono ?_
              rintro e w5 ⟨rfl, hm5⟩
              have hres5 := hm5.heap Hres.out (fun e => e)
              have r0 : w5.cell? ⟨w.heap.size + 1, 0, none⟩ = some (.int .i64 0) := by rw [cell_of_heap hres5]; rfl
              have r1 : w5.cell? ⟨w.heap.size + 1, 1, none⟩ = some (.int .i64 0) := by rw [cell_of_heap hres5]; rfl
              have f0 := free_of_heap hres5 0
              have f1 := free_of_heap hres5 1
              have hmw := Hm.out.trans0 hm5
              have hs1 := lt_of_block hres5
              have Hmw := Lib.hid hmw
              clear hm5 hres5 hmw
              go_wp2
              refine bodyPost_ret (v := .agg #[.int .i64 0, .int .i64 (-1)]) (by simp [results, Tryd.results22, go_sem, r0, r1]) rfl ⟨rfl, ?_⟩
              exact (Hmw.out.setCell (fun h => absurd h (by simp)) _).setCell (fun h => absurd h (by simp)) _
end Go.Proofs.YtamfbfajlfbooaaDoor
