/- The machine's errors, as a row lays them. -/
import Derived.Test.YtciaficoeajeaaaGreatDoorWFErrsI
set_option linter.unusedVariables false
set_option linter.unusedSimpArgs false
set_option linter.unusedSectionVars false
namespace Go.Proofs.YtciaficoeajeaaaGreatDoor
open Go.RowKit Qs Qh
theorem errsIH{I:List Nat}(hmap:((laidI I).map fun x=>(x.1,(.iface errName (.ptr (.agg [.lit (.string x.2.1)])):DataW Unit)))=lstI I)
  (hok0:((laidI I).all fun x=>decide (Tryz.prog.globalNamed x.1=some x.2.2)&&decide ((Tryz.prog.globals[x.2.2]?).map (·.type)=some 31))=true) (hnums:(laidI I).map (·.2.2)=I.map errG)
  {laid:List (String × DataW Unit)} {k:Nat} (C0:(laid.filter fun x=>x.2.handleName?.isSome)=[hd10]) (C:((laid.filter fun x=>x.2.handleName?.isNone).drop k).take I.length=lstI I) {W:World} (h:laidMetH Tryz.prog laid W) :
  ∃b:Nat→Addr,(∀(p i:Nat),I[p]?=some i→W.cell? ⟨errG i,0,none⟩=some (.iface 241 (.pointer (some (b p)))))∧(∀p,p<I.length→∃c t,W.heap[(b p).block]?=some (.cells c t (0,0)))∧∀p q,p<I.length→q<I.length→p≠q→b p≠b q:=by
 unfold laidMetH at h;rw[C0]at h;obtain ⟨hL0,hh⟩:=h;have hL1:=laidMet_part hL0 k I.length;rw[C,←hmap]at hL1;obtain ⟨ps,hL,hnd,hrows⟩:=hL1
 have hok:∀x∈laidI I,Tryz.prog.globalNamed x.1=some x.2.2∧(Tryz.prog.globals[x.2.2]?).map (·.type)=some 31:=fun x hx=>by
  have:=List.all_eq_true.1 hok0 x hx
  simpa using this
 obtain ⟨bs,hl,hall,hlen⟩:=laidVars_sentinels Tryz.underlying31 errRow Tryz.underlying241 Tryz.underlying261 rfl rfl Tryz.underlying9 (by kernel_rfl) (by kernel_rfl) (laidI I) hok ps hL hrows
 have hlI:(laidI I).length=I.length:=by have:=congrArg List.length hnums;simpa using this
 have hb:∀p,p<I.length→bs[p]?=some (bs.getD p default):=fun p hp=>by
  have:p<bs.length:=by omega
  simp[List.getD,this]
 have hx:∀p,p<I.length→∃x,(laidI I)[p]?=some x:=fun p hp=>⟨_,List.getElem?_eq_getElem (by omega)⟩;refine ⟨fun i=>bs.getD i default,fun p i hp=>?_,fun p hp=>?_,fun p q hp hq hne e=>?_⟩
 ·have hlt:=(List.getElem?_eq_some_iff.1 hp).1
  obtain ⟨x,hx,e⟩:∃x,(laidI I)[p]?=some x∧x.2.2=errG i:=by
   have h1:((laidI I).map (·.2.2))[p]?=some (errG i):=by rw[hnums,List.getElem?_map,hp];rfl
   rw[List.getElem?_map]at h1;obtain ⟨x,hx,e⟩:=Option.map_eq_some_iff.1 h1;exact ⟨x,hx,e⟩
  obtain ⟨h1,-⟩:=hall p x _ hx (hb p hlt);have hg:=(hok x (List.mem_of_getElem? hx)).1;rw[e]at hg
  simpa using World.var?_cell hg h1 0
 ·obtain ⟨x,hx⟩:=hx p hp;obtain ⟨-,h2,-⟩:=hall p x _ hx (hb p hp);exact h2
 ·obtain ⟨x,hx1⟩:=hx p hp;obtain ⟨y,hy1⟩:=hx q hq;obtain ⟨-,-,h3,-⟩:=hall p x _ hx1 (hb p hp);obtain ⟨-,-,h4,-⟩:=hall q y _ hy1 (hb q hq);have e':bs.getD p default=bs.getD q default:=e;rw[e',←h4]at h3;have hpw:=List.pairwise_iff_getElem.1 hnd
  have l1:2*p+1<ps.length:=by omega
  have l2:2*q+1<ps.length:=by omega
  rw[List.getElem?_eq_getElem l1,List.getElem?_eq_getElem l2]at h3;have h3':=Option.some.inj h3
  rcases Nat.lt_or_gt_of_ne hne with hlt|hlt
  ·exact hpw (2*p+1) (2*q+1) l1 l2 (by omega) h3'
  ·exact hpw (2*q+1) (2*p+1) l2 l1 (by omega) h3'.symm
theorem hd10_met{laid:List (String × DataW Unit)}(C0:(laid.filter fun x=>x.2.handleName?.isSome)=[hd10]){W:World}(h:laidMetH Tryz.prog laid W):W.cell? ⟨5,0,none⟩=some (.iface 206 (.agg #[.pointer (some ⟨10,31,none⟩)])):=by
 unfold laidMetH at h;rw[C0]at h;obtain ⟨-,hh⟩:=h;have h1:=hh hd10 (List.mem_singleton.2 rfl)
 have h0:hd10.2.funcsIn? = none:=by simpa using hd10_funcs
 rw[h0]at h1;obtain ⟨name,u,ty,e1,e2,e3,e4,e5⟩:=h1;have en:name=[101,114,114,111,114]:=(Option.some.inj (hd10_name.symm.trans e1)).symm;subst en;obtain rfl:=Option.some.inj (rtypeNum.symm.trans e2);have hm:ty∈errRows:=List.mem_filter.2 ⟨List.mem_range.2 e3,e4⟩;rw[errOneRow]at hm
 obtain rfl:=List.mem_singleton.1 hm;rw[errHandle]at e5
 simpa using World.var?_cell hd10_num e5 0
theorem errsM_of_laid{laid:List (String × DataW Unit)}{k:Nat}(C0:(laid.filter fun x=>x.2.handleName?.isSome)=[hd10])(C:((laid.filter fun x=>x.2.handleName?.isNone).drop k).take 7=lstI [1,2,3,4,5,6,8]){W:World}(h:laidMetH Tryz.prog laid W):∃a,ErrsM W a:=by
 obtain ⟨b,hb,ho,hn⟩:=errsIH (I:=[1,2,3,4,5,6,8]) (by kernel_rfl) (by kernel_rfl) (by kernel_rfl) C0 C h
 exact ⟨fun i=>if i=8 then b 6 else b (i - 1),hb 0 1 rfl,hb 1 2 rfl,hb 2 3 rfl,hb 3 4 rfl,hb 4 5 rfl,hb 5 6 rfl,hb 6 8 rfl,hd10_met C0 h,fun i hi=>(by rcases hi with rfl|rfl|rfl <;> first|exact ho 0 (by decide)|exact ho 3 (by decide)|exact ho 5 (by decide)),hn 0 5 (by decide) (by decide) (by decide),hn 3 5 (by decide) (by decide) (by decide)⟩
end Go.Proofs.YtciaficoeajeaaaGreatDoor
