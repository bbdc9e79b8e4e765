/- Some sentinels, as a row lays them. -/
import Derived.Test.YtppihkneeolomaaGreatDoorSSErrsLawQ
import Derived.Test.YtppihkneeolomaaGreatDoorSSm3
set_option linter.unusedVariables false
set_option linter.unusedSimpArgs false
set_option linter.unusedSectionVars false
namespace Go.Proofs.YtppihkneeolomaaGreatDoor
open Go.RowKit Qs Qh
noncomputable def lstI (I : List Nat) : List (String × DataW Unit) := I.map fun i => nine.getD i ("", .nil)
noncomputable def laidI(I:List Nat):List (String × List UInt8 × Nat):=(lstI I).map fun x=>(x.1,textOf x.2,(Tryz.prog.globalNamed x.1).getD 0)
theorem errsI{I:List Nat}(hmap:((laidI I).map fun x=>(x.1,(.iface errName (.ptr (.agg [.lit (.string x.2.1)])):DataW Unit)))=lstI I)
  (hok0:((laidI I).all fun x=>decide (Tryz.prog.globalNamed x.1=some x.2.2)&&decide ((Tryz.prog.globals[x.2.2]?).map (·.type)=some 35))=true) (hnums:(laidI I).map (·.2.2)=I.map errG)
  {laid:List (String × DataW Unit)} {k:Nat} (C0:(laid.filter fun x=>x.2.handleName?.isSome)=[]) (C:(laid.drop k).take I.length=lstI I) {W:World} (h:laidMetH Tryz.prog laid W) :
  ∃b:Nat→Addr,∀(p i:Nat),I[p]?=some i→W.cell? ⟨errG i,0,none⟩=some (.iface 225 (.pointer (some (b p)))):=by
 unfold laidMetH at h;rw[C0]at h;have hL1:=laidMet_part h k I.length;rw[C,←hmap]at hL1;obtain ⟨ps,hL,hnd,hrows⟩:=hL1
 have hok:∀x∈laidI I,Tryz.prog.globalNamed x.1=some x.2.2∧(Tryz.prog.globals[x.2.2]?).map (·.type)=some 35:=fun x hx=>by
  have:=List.all_eq_true.1 hok0 x hx
  simpa using this
 obtain ⟨bs,hl,hall,hlen⟩:=laidVars_sentinels Tryz.underlying35 errRow Tryz.underlying225 Tryz.underlying244 rfl rfl Tryz.underlying9 (by kernel_rfl) (by kernel_rfl) (laidI I) hok ps hL hrows
 have hlI:(laidI I).length=I.length:=by have:=congrArg List.length hnums;simpa using this
 refine ⟨fun i=>bs.getD i default,fun p i hp=>?_⟩;have hlt:=(List.getElem?_eq_some_iff.1 hp).1
 obtain ⟨x,hx,e⟩:∃x,(laidI I)[p]?=some x∧x.2.2=errG i:=by
  have h1:((laidI I).map (·.2.2))[p]?=some (errG i):=by rw[hnums,List.getElem?_map,hp];rfl
  rw[List.getElem?_map]at h1;obtain ⟨x,hx,e⟩:=Option.map_eq_some_iff.1 h1;exact ⟨x,hx,e⟩
 have hb:bs[p]?=some (bs.getD p default):=by
  have:p<bs.length:=by omega
  simp[List.getD,this]
 obtain ⟨h1,-⟩:=hall p x _ hx hb;have hg:=(hok x (List.mem_of_getElem? hx)).1;rw[e]at hg
 simpa using World.var?_cell hg h1 0
theorem errs3{laid:List (String × DataW Unit)}{k:Nat}(C0:(laid.filter fun x=>x.2.handleName?.isSome)=[])(C:(laid.drop k).take 3=lstI [1,2,3]){W:World}(h:laidMetH Tryz.prog laid W):∃a,ErrsS W a:=by
 obtain ⟨b,hb⟩:=errsI (I:=[1,2,3]) (by kernel_rfl) (by kernel_rfl) (by kernel_rfl) C0 C h;exact ⟨fun i=>if i=1 then b 0 else b 1,hb 0 1 rfl,hb 1 2 rfl⟩
end Go.Proofs.YtppihkneeolomaaGreatDoor
