/- package code: forms, fits: over any op. -/
import Derived.Test.YtciaficoeajeaaaGreatDoorWFm6
import Derived.Test.YtciaficoeajeaaaGreatDoorProg
import Derived.WalkKit
import Derived.Lib.Hide
set_option linter.unusedVariables false
set_option linter.unusedSimpArgs false
set_option linter.unusedSectionVars false
set_option maxHeartbeats 16000000
namespace Go.Proofs.YtciaficoeajeaaaGreatDoor
open Go.RowKit Qs Qh
theorem opNeL{s:ByteArray}(h:opIx s=none)(k:Nat)(hk:k<21){l:List UInt8}(hl:(opStr k).data.toList=l):(s.toList==l)=false∧¬s.toList=l:=by
 have h1:¬s.toList=l:=fun e=>opIx_none h k hk (ByteArray.ext (Array.toList_inj.1 (by rw[hl,←e,ByteArray.toList_eq])));exact ⟨by rw[beq_eq_false_iff_ne];exact h1,h1⟩
def formV(k:Nat):Value:=.tuple #[.agg #[.string ⟨(nK k).toArray⟩,.bool (lK k)],.bool true]
def formN:Value:=.tuple #[.agg #[.string ⟨#[]⟩,.bool false],.bool false]
theorem forms_ok(k:Nat)(hk:k<21)(w:World):Calls Tryz.prog 114 #[.string (opStr k)] w fun e w'=>e=.returned (formV k)∧Mod noF w w':=by
 rcases (by omega:k=0∨k=1∨k=2∨k=3∨k=4∨k=5∨k=6∨k=7∨k=8∨k=9∨k=10∨k=11∨k=12∨k=13∨k=14∨k=15∨k=16∨k=17∨k=18∨k=19∨k=20)with rfl|rfl|rfl|rfl|rfl|rfl|rfl|rfl|rfl|rfl|rfl|rfl|rfl|rfl|rfl|rfl|rfl|rfl|rfl|rfl|rfl
 all_goals
  simp only[opStr]
  go_enter Tryz.func114,Tryz.ntmps114
  go_wp2;refine bodyPost_ret (v:=formV _) (by simp[results,Tryz.results114,go_sem,formV,nK,lK];try rfl) rfl ⟨rfl,by repeat (first|exact Mod.refl _ _|refine Mod.alloc ?_ _|refine Mod.drew ?_|refine Mod.drewN ?_ _)⟩
theorem forms_no{s:ByteArray}(h:opIx s=none)(w:World):Calls Tryz.prog 114 #[.string s] w fun e w'=>e=.returned formN∧Mod noF w w':=by
 obtain ⟨e0,f0⟩:=opNeL h 0 (by decide) (l:=[99,111,110,115,116]) rfl;obtain ⟨e1,f1⟩:=opNeL h 1 (by decide) (l:=[109,111,118,101]) rfl;obtain ⟨e2,f2⟩:=opNeL h 2 (by decide) (l:=[97,100,100]) rfl;obtain ⟨e3,f3⟩:=opNeL h 3 (by decide) (l:=[115,117,98]) rfl
 obtain ⟨e4,f4⟩:=opNeL h 4 (by decide) (l:=[97,110,100]) rfl;obtain ⟨e5,f5⟩:=opNeL h 5 (by decide) (l:=[120,111,114]) rfl;obtain ⟨e6,f6⟩:=opNeL h 6 (by decide) (l:=[108,111,97,100]) rfl;obtain ⟨e7,f7⟩:=opNeL h 7 (by decide) (l:=[115,116,111,114,101]) rfl
 obtain ⟨e8,f8⟩:=opNeL h 8 (by decide) (l:=[115,119,97,112]) rfl;obtain ⟨e9,f9⟩:=opNeL h 9 (by decide) (l:=[99,97,115]) rfl;obtain ⟨e10,f10⟩:=opNeL h 10 (by decide) (l:=[97,108,108,111,99]) rfl;obtain ⟨e11,f11⟩:=opNeL h 11 (by decide) (l:=[102,114,101,101]) rfl
 obtain ⟨e12,f12⟩:=opNeL h 12 (by decide) (l:=[102,101,110,99,101]) rfl;obtain ⟨e13,f13⟩:=opNeL h 13 (by decide) (l:=[102,111,114,99,101]) rfl;obtain ⟨e14,f14⟩:=opNeL h 14 (by decide) (l:=[122,101,114,111]) rfl;obtain ⟨e15,f15⟩:=opNeL h 15 (by decide) (l:=[115,97,109,101]) rfl
 obtain ⟨e16,f16⟩:=opNeL h 16 (by decide) (l:=[103,111,116,111]) rfl;obtain ⟨e17,f17⟩:=opNeL h 17 (by decide) (l:=[108,97,98,101,108]) rfl;obtain ⟨e18,f18⟩:=opNeL h 18 (by decide) (l:=[109,97,114,107]) rfl;obtain ⟨e19,f19⟩:=opNeL h 19 (by decide) (l:=[110,101,101,100]) rfl
 obtain ⟨e20,f20⟩:=opNeL h 20 (by decide) (l:=[115,116,111,112]) rfl;clear h
 go_enter Tryz.func114,Tryz.ntmps114
 go_wp2;refine bodyPost_ret (v:=formN) (by simp[results,Tryz.results114,go_sem,formN];try rfl) rfl ⟨rfl,by repeat (first|exact Mod.refl _ _|refine Mod.alloc ?_ _|refine Mod.drew ?_|refine Mod.drewN ?_ _)⟩
end Go.Proofs.YtciaficoeajeaaaGreatDoor
