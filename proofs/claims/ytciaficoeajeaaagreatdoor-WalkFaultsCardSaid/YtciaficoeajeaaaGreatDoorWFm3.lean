/- Texts that belong together, joined. -/
import Derived.Test.YtciaficoeajeaaaGreatDoorProg
import Derived.WalkKit
import Derived.LaidEql
import Derived.Stop.Asserts
import Derived.RowKitTokens
import Derived.Test.YtciaficoeajeaaaGreatDoorWFm2
import Derived.Test.YtciaficoeajeaaaGreatDoorWFm1
import Derived.Outline
import Derived.Deep.QuietTactic
import Derived.BigQuiet
import Derived.Lib.Hide
import Derived.JoinedOf
import Derived.KernelRfl
import Derived.Test.YtciaficoeajeaaaGreatDoorRows
import Derived.ProofKit
import Derived.LaidLaws
import Derived.LaidHandle
import Derived.ChangeSame
import Derived.ChangeVars
import Derived.Stop.Joined
set_option linter.unusedVariables false
set_option linter.unusedSimpArgs false
set_option linter.unusedSectionVars false
namespace Go.Proofs.YtciaficoeajeaaaGreatDoor
section
open Go.RowKit Go.Extern.Stop Go.Stop Go.Extern
theorem isTypeOf(v:Value)(w:World):(callFunc 101 #[.iface 241 v]).run Tryz.prog w=.ok (Next.value (.iface 206 (.agg #[.pointer (some ⟨10,241,none⟩)]))) w:=by kernel_rfl
theorem isComparable(w:World):(callFunc 162 #[.agg #[.pointer (some ⟨10,241,none⟩)]]).run Tryz.prog w=.ok (Next.value (.bool true)) w:=by kernel_rfl
theorem isMethodComparable (v : Value) (w : World) : (Go.method 373 206 v "Comparable").run Tryz.prog w = .ok (162, v) w := by kernel_rfl
theorem isComp:(Tryz.prog.info? 241).map (·.comparable)=some true:=by kernel_rfl
theorem isSize:(Tryz.prog.info? 261).map (·.size)=some 1:=by kernel_rfl
theorem noIsE(v:Value)(xT:TypeId)(w:World):(Instr.typeAssert (.iface 241 v) xT 228 true).run Tryz.prog w=.ok (.tuple #[.nilIface,.bool false]) w:=run_typeAssert_lacksB Tryz.underlying228 (by kernel_rfl) (by kernel_rfl) v xT w
theorem noUnwrapE(v:Value)(xT:TypeId)(w:World):(Instr.typeAssert (.iface 241 v) xT 213 true).run Tryz.prog w=.ok (.tuple #[.nilIface,.bool false]) w:=run_typeAssert_lacksB Tryz.underlying213 (by kernel_rfl) (by kernel_rfl) v xT w
theorem noUnwrapsE(v:Value)(xT:TypeId)(w:World):(Instr.typeAssert (.iface 241 v) xT 215 true).run Tryz.prog w=.ok (.tuple #[.nilIface,.bool false]) w:=run_typeAssert_lacksB Tryz.underlying215 (by kernel_rfl) (by kernel_rfl) v xT w
theorem is_same(a:Addr)(w:World) :
  Calls Tryz.prog 58 #[.iface 241 (.pointer (some a)),.iface 241 (.pointer (some a))] w fun e w'=>e=.returned (.bool true)∧w'=w:=by
 obtain ⟨i,hi,hcmp⟩:=Option.map_eq_some_iff.1 isComp;obtain ⟨j,hj,hjs⟩:=Option.map_eq_some_iff.1 isSize;have tT:=isTypeOf;have cT:=isComparable;have mR:=isMethodComparable;have heq:=run_eql_iface_ptr_same (P:=Tryz.prog) w a Tryz.underlying31 Tryz.underlying241 hi hcmp hj
 go_enter Tryz.func58,Tryz.ntmps58
 go_wp2;refine wp_loop_rounds 1 ?_;rw[rounds_succ];go_wp2;go_ret;exact ⟨rfl,rfl⟩
theorem is_other(a b:Addr)(ca cb:Array Value)(ta tb:TypeId)(w:World)(hne:a≠b)(ha:w.heap[a.block]?=some (.cells ca ta (0,0)))(hb:w.heap[b.block]?=some (.cells cb tb (0,0))) :
  Calls Tryz.prog 58 #[.iface 241 (.pointer (some a)),.iface 241 (.pointer (some b))] w fun e w'=>e=.returned (.bool false)∧w'=w:=by
 obtain ⟨i,hi,hcmp⟩:=Option.map_eq_some_iff.1 isComp;obtain ⟨j,hj,hjs⟩:=Option.map_eq_some_iff.1 isSize;have tT:=isTypeOf;have cT:=isComparable;have mR:=isMethodComparable;have nE:=noIsE;have uE:=noUnwrapE;have vE:=noUnwrapsE
 have heq:=run_eql_iface_ptr_other (P:=Tryz.prog) w Tryz.underlying31 Tryz.underlying241 hi hcmp hj (by rw[hjs];decide) hne ha hb
 go_enter Tryz.func58,Tryz.ntmps58
 go_wp2;refine wp_loop_rounds 1 ?_;rw[rounds_succ];go_wp2;go_ret;exact ⟨rfl,rfl⟩
end
section
open Go.RowKit Qs Qh
theorem right_any(n:Int)(w:World):Calls Tryz.prog 78 #[.int .i64 n] w fun e w'=>e=.returned (.bool (isWord n))∧w=w':=by
 by_cases h0:0≤n
 ·by_cases h1:n<4294967296
  ·have e:isWord n=true:=by simp[isWord,W32,h0,h1]
   have d0:decide (0≤n)=true:=by simpa using h0
   have d1:decide (n≤4294967295)=true:=by simp;omega
   rw[e]
   go_enter Tryz.func78,Tryz.ntmps78
   go_wp2;go_ret;exact ⟨rfl,rfl⟩
  ·have e:isWord n=false:=by simp[isWord,W32,h1]
   have d0:decide (0≤n)=true:=by simpa using h0
   have d1:decide (n≤4294967295)=false:=by simp;omega
   rw[e]
   go_enter Tryz.func78,Tryz.ntmps78
   go_wp2;go_ret;exact ⟨rfl,rfl⟩
 ·have e:isWord n=false:=by simp[isWord,h0]
  have d0:decide (0≤n)=false:=by simpa using h0
  rw[e]
  go_enter Tryz.func78,Tryz.ntmps78
  go_wp2;go_ret;exact ⟨rfl,rfl⟩
end
section
open Go.RowKit Qs Qh
def refV(n:Int):Int × Int × Int:=match refOf n with|some (c,g)=>(c,g,0)|none=>(0,0,if n=0 then 5 else 2)
def wordV(c g:Int):Int × Int:=if 0≤c∧c<64∧0≤g∧g≤67108864∧isWord (g*64+c+1)then (g*64+c+1,0)else (0,2)
end
section
open Go.RowKit Qs Qh
theorem name_any(s:ByteArray)(w:World)(hs:s.size≤maxLen) :
  Calls Tryz.prog 116 #[.string s] w fun e w'=>e=.returned (.bool (nameB s.data.toList))∧w=w':=by
 unfold maxLen at hs
 by_cases h0:s.size=0
 ·have e0:s.toList=[]:=by rw[Lib.toList_data];exact List.length_eq_zero_iff.1 (by rw[bytes_len];exact h0)
  have e1:s.toList.isEmpty=true:=by rw[e0];rfl
  have e2:nameB s.data.toList=false:=by rw[←Lib.toList_data,e0];rfl
  rw[e2];clear e2 h0
  go_enter Tryz.func116,Tryz.ntmps116
  go_wp2;go_ret;exact ⟨rfl,rfl⟩
 ·have hp:0<s.size:=by omega
  have e1:s.toList.isEmpty=false:=by
   rw[Lib.toList_data]
   cases h:s.data.toList with
   |nil=>have:=bytes_len s;rw[h]at this;simp at this;omega
   |cons _ _=>rfl
  by_cases h12:12<s.size
  ·have e2:=nameB_len (l:=s.data.toList) (by rw[bytes_len];exact h12);rw[e2];clear e2 h0
   have hd:decide ((12:Int)<(s.size:Int))=true:=by simp;omega
   go_enter Tryz.func116,Tryz.ntmps116
   go_wp2;go_ret;exact ⟨rfl,rfl⟩
  ·have hd:decide ((12:Int)<(s.size:Int))=false:=by simp;omega
   have g0:=bytes_get s 0 hp
   go_enter Tryz.func116,Tryz.ntmps116
   go_wp2
   ·go_ret;refine ⟨ret_bool (nameB_first g0 ?_).symm,rfl⟩
    have:(s[0].toNat:Int)<97∨122<(s[0].toNat:Int):=by assumption
    unfold lowB;simp;omega
   ·have hlow:lowB s[0]=true:=by
     have:97≤(s[0].toNat:Int)∧(s[0].toNat:Int)≤122:=by assumption
     unfold lowB;simp;omega
    have Hlow:=Lib.hid hlow;have G0:=Lib.hid g0;clear hlow g0
    go_loop [24,3,4] (fun i _ _=>∃k:Nat,k≤s.size∧i=.int .i64 k∧∀(j:Nat) d,j<k→s.data.toList[j]?=some d→chB d=true) (fun i _ _=>s.size - (intOf i).toNat)
    case atStart=>exact ⟨0,Nat.zero_le _,rfl,fun j d hj=>absurd hj (by omega)⟩
    case round=>
     obtain ⟨k,hk,rfl,hall⟩:=hrel;have Hall:=Lib.hid hall;clear hall
     by_cases hlt:k<s.size
     ·have gk:=bytes_get s k hlt;have Gk:=Lib.hid gk;clear gk;go_wp2
      all_goals (try simp only[bne_iff_ne,ne_eq,bne_eq_false_iff_eq]at *)
      all_goals first
       | (go_round
          case rel=>exact ⟨k+1,by omega,by go_num,ch_step hlt Hall.out (chB_true (by omega))⟩
          case measure=>simp[intOf];omega)
       | (go_ret
          exact ⟨ret_bool (nameB_ch Gk.out (chB_false (by omega))).symm,rfl⟩)
     ·obtain rfl:k=s.size:=by omega
      go_wp2;go_ret;refine ⟨ret_bool (nameB_yes G0.out Hlow.out (by rw[bytes_len];omega) fun i d hd=>Hall.out i d ?_ hd).symm,rfl⟩;have:=(List.getElem?_eq_some_iff.1 hd).1;rw[bytes_len]at this;exact this
   ·go_ret;refine ⟨ret_bool (nameB_first g0 ?_).symm,rfl⟩
    have:(s[0].toNat:Int)<97:=by assumption
    unfold lowB;simp;omega
end
section
open Go
def kindsOf(P:Program)(b:Bool)(l:List TypeId):List (Option IntKind):=if b then []else l.map fun t=>match P.underlying t with|some (.int k)=>some k|_=>none
theorem joined_of{P:Program}{f:FuncId}{fn:Func}{s:ChangeSpec}{c:OpenClaim}
  (k0:(c.wf (OpenSpec.ofChange s))=true)
  (k1:(laidOutB P)=true)
  (k2:(mapsRowed P)=true)
  (k3:(fn.params.all (P.readableRec ·))=true)
  (k4:(namedTie P c.named s.vars)=true)
  (k5:((c.stops==[]))=true)
  (k6:((P.stops==[]))=true)
  (k7:((c.knobs==[]))=true)
  (k8:((P.stopKnobs==[]))=true)
  (k9:((c.inPlace==P.inPlace f))=true)
  (k10:((c.unfollowed==P.unfollowed f))=true)
  (k11:((c.recurses==P.recurses f))=true)
  (k12:((c.named==P.varsNamed f))=true)
  (k13:((c.maps==(fn.params.toList++s.plain.varTypes P).any (P.mapsRec ·)))=true)
  (k14:((c.ifaces==(fn.params.toList++s.plain.varTypes P).any (P.ifacesRec ·)))=true)
  (k15:((c.mapsOut==P.mapsAmong fn.resultTypes.toList))=true)
  (k16:((c.loops==(fn.params.toList++s.plain.varTypes P).any (P.loopsFrom ·)))=true)
  (k17:((c.wideKeys==(fn.params.toList++s.plain.varTypes P++fn.resultTypes.toList).any (P.wideKeysFrom ·)))=true)
  (k18:(s.vars.all (P.varReadable ·))=true)
  (k19:(fn.resultTypes.all (fun t=>P.readableRec t&&decide (t<P.types.size)))=true)
  (k20:((c.ifacesOut==fn.resultTypes.toList.any (P.ifacesRec ·)))=true)
  (k21:((c.loopsOut==fn.resultTypes.toList.any (P.loopsFrom ·)))=true)
  (k22:((c.plainKeys==P.plainKeys))=true)
  (k23:(c.shortTexts.isNone)=true)
  (k24:(P.stopsHeard)=true)
  (k25:(P.mayEnter)=true)
  (k26:((c.lifted==P.liftsFinal))=true)
  (k27:((P.make==some c.make))=true)
  (k28:((c.kinds==kindsOf P c.domain.isEmpty fn.params.toList))=true)
  (k29:((c.pinned==c.pinnedBy))=true)
  (k30:((c.veiled==(fn.params.toList++s.plain.varTypes P++fn.resultTypes.toList).any (P.veiledRec ·)))=true)
  (k31:(c.veiledFits P fn.params.toList (fn.params.toList++s.plain.varTypes P++fn.resultTypes.toList))=true):joinedFacts P f fn s c=true:=by
 unfold joinedFacts;refine Bool.and_eq_true_iff.2 ⟨?_,k31⟩;refine Bool.and_eq_true_iff.2 ⟨?_,k30⟩;refine Bool.and_eq_true_iff.2 ⟨?_,k29⟩;refine Bool.and_eq_true_iff.2 ⟨?_,k28⟩;refine Bool.and_eq_true_iff.2 ⟨?_,k27⟩;refine Bool.and_eq_true_iff.2 ⟨?_,k26⟩;refine Bool.and_eq_true_iff.2 ⟨?_,k25⟩
 refine Bool.and_eq_true_iff.2 ⟨?_,k24⟩;refine Bool.and_eq_true_iff.2 ⟨?_,k23⟩;refine Bool.and_eq_true_iff.2 ⟨?_,k22⟩;refine Bool.and_eq_true_iff.2 ⟨?_,k21⟩;refine Bool.and_eq_true_iff.2 ⟨?_,k20⟩;refine Bool.and_eq_true_iff.2 ⟨?_,k19⟩;refine Bool.and_eq_true_iff.2 ⟨?_,k18⟩
 refine Bool.and_eq_true_iff.2 ⟨?_,k17⟩;refine Bool.and_eq_true_iff.2 ⟨?_,k16⟩;refine Bool.and_eq_true_iff.2 ⟨?_,k15⟩;refine Bool.and_eq_true_iff.2 ⟨?_,k14⟩;refine Bool.and_eq_true_iff.2 ⟨?_,k13⟩;refine Bool.and_eq_true_iff.2 ⟨?_,k12⟩;refine Bool.and_eq_true_iff.2 ⟨?_,k11⟩
 refine Bool.and_eq_true_iff.2 ⟨?_,k10⟩;refine Bool.and_eq_true_iff.2 ⟨?_,k9⟩;refine Bool.and_eq_true_iff.2 ⟨?_,k8⟩;refine Bool.and_eq_true_iff.2 ⟨?_,k7⟩;refine Bool.and_eq_true_iff.2 ⟨?_,k6⟩;refine Bool.and_eq_true_iff.2 ⟨?_,k5⟩;refine Bool.and_eq_true_iff.2 ⟨?_,k4⟩
 refine Bool.and_eq_true_iff.2 ⟨?_,k3⟩;refine Bool.and_eq_true_iff.2 ⟨?_,k2⟩;refine Bool.and_eq_true_iff.2 ⟨?_,k1⟩;exact k0
end
section
theorem own:ownKnob Tryz.prog.godebug=none:=by kernel_rfl
theorem laidOut:laidOutB Tryz.prog=true:=by kernel_rfl
noncomputable def low:Nat:=(World.holding Tryz.prog default ⟨#[],#[],[]⟩).heap.size
def setVar(vs:Array Value):Obj→Obj
 |.cells _ t frozen=>.cells vs t frozen
 |o=>o
noncomputable def laidWorld(os:Os):World:=
 let w0:=World.holding Tryz.prog os ⟨#[.cells #[.string {data:=#[113,117,105,101,115,99,101,110,116,58,32,116,101,120,116]}] 261,
  .cells #[.string {data:=#[113,117,105,101,115,99,101,110,116,58,32,98,111,117,110,100]}] 261,
  .cells #[.string {data:=#[113,117,105,101,115,99,101,110,116,58,32,115,104,97,112,101]}] 261,
  .cells #[.string {data:=#[113,117,105,101,115,99,101,110,116,58,32,110,97,109,101]}] 261,
  .cells #[.string {data:=#[113,117,105,101,115,99,101,110,116,58,32,110,111,110,101]}] 261,
  .cells #[.string {data:=#[113,117,105,101,115,99,101,110,116,58,32,102,117,108,108]}] 261,
  .cells #[.string {data:=#[113,117,105,101,115,99,101,110,116,58,32,115,116,97,108,101]}] 261,
  .cells #[.string {data:=#[113,117,105,101,115,99,101,110,116,58,32,104,101,108,100]}] 261,
  .cells #[.string {data:=#[113,117,105,101,115,99,101,110,116,58,32,100,111,110,101]}] 261],#[],[]⟩
 {w0 with heap:=((((((((((w0.heap.modify 6 (setVar #[.iface 241 (.pointer (some ⟨low+0,0,none⟩))])).modify 0 (setVar #[.iface 241 (.pointer (some ⟨low+1,0,none⟩))])).modify 7 (setVar #[.iface 241 (.pointer (some ⟨low+2,0,none⟩))])).modify 3 (setVar #[.iface 241 (.pointer (some ⟨low+3,0,none⟩))])).modify 4 (setVar #[.iface 241 (.pointer (some ⟨low+4,0,none⟩))])).modify 8 (setVar #[.iface 241 (.pointer (some ⟨low+5,0,none⟩))])).modify 2 (setVar #[.iface 241 (.pointer (some ⟨low+6,0,none⟩))])).modify 9 (setVar #[.iface 241 (.pointer (some ⟨low+7,0,none⟩))])).modify 1 (setVar #[.iface 241 (.pointer (some ⟨low+8,0,none⟩))])).modify 5 (setVar #[.iface 206 (.agg #[.pointer (some ⟨10,31,none⟩)])]))}
theorem laid_met_walkFaults(os:Os)(args:Array Value):laidMetH Tryz.prog Rows.walkFaultsRow.laid ((laidWorld os).forCall (fun _ _=>0) ⟨#[],args,[]⟩).memory:=
 laidMetH_of_parts (by rw[show (List.filter (fun x:String × DataW Unit=>x.2.handleName?.isNone) Rows.walkFaultsRow.laid)=Rows.walkFaultsRow.laid.take 0++Rows.walkFaultsRow.laid.drop 1 by kernel_rfl];exact laidMet_of_run' 70 (by kernel_rfl) (by kernel_rfl)) (by kernel_rfl)
end
end Go.Proofs.YtciaficoeajeaaaGreatDoor
