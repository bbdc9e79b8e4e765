/- What the rows' cell 'laid' gives a walk: nine sentinels, all different, and a type's handle; whatever else it lays. -/
import Derived.Test.YtciaficoeajeaaaGreatDoorMRm5
import Derived.Test.YtciaficoeajeaaaGreatDoorMRm3
import Derived.Stop.LaidErr
set_option linter.unusedVariables false
set_option linter.unusedSimpArgs false
set_option linter.unusedSectionVars false
namespace Go
theorem laidVars_sentinels{P:Program}{nm:String}{W:World}{ti tp te ts:TypeId}{ms:Array (String × TypeId)}{f:Field}
  (hi:P.underlying ti=some (.interface ms)) (hrow:∀u,P.typeName? 3 u=some nm→u=tp)
  (hp:P.underlying tp=some (.pointer te)) (he:P.underlying te=some (.struct #[f])) (hft:f.type=ts) (hfo:f.offset=0) (hs:P.underlying ts=some .string) (hc:P.cellsOf te=1) (hcs:P.cellsOf ts=1) :
  ∀(l:List (String × List UInt8 × Nat)),(∀x∈l,P.globalNamed x.1=some x.2.2∧(P.globals[x.2.2]?).map (·.type)=some ti)→∀ps,
   DataW.LaidVars P W (l.map fun x=>(x.1,.iface nm (.ptr (.agg [.lit (.string x.2.1)])))) ps→
   (∀b off,MemPlace.cell b off∈ps→(∃c t,W.heap[b]?=some (.cells c t (0,0)))∧∀u v,W.cell? ⟨b,off,none⟩=some (.iface u v)→Value.okWide P W .any 0 u v)→
   ∃bs:List Addr,bs.length=l.length∧(∀(i:Nat) x a,l[i]?=some x→bs[i]?=some a→W.var? P x.1=some #[.iface tp (.pointer (some a))]∧(∃c t,W.heap[a.block]?=some (.cells c t (0,0)))∧ps[2*i+1]?=some (.cell a.block a.off)∧a.spot=none)∧ps.length=2*l.length
 |[],_,ps,h,_=>⟨[],rfl,fun i x a hx=>by simp at hx,by simp only[List.map_nil,DataW.LaidVars]at h;subst h;rfl⟩
 |x :: l,hx,ps,h,hrows=>by
  obtain ⟨g0,t0,cs0,f0,p0,q0,hg0,ht0,hv0,hd0,hr,e0⟩:=h;obtain ⟨hg,ht⟩:=hx x (List.mem_cons_self ..);obtain rfl:=Option.some.inj (hg.symm.trans hg0);obtain rfl:=Option.some.inj (ht.symm.trans ht0);subst e0;obtain ⟨l0⟩:=cs0
  have ok0:∀u v,l0=[.iface u v]→Value.okWide P W .any 0 u v:=fun u v e=>by
   subst e;exact (hrows x.2.2 0 (by simp[MemPlace.row])).2 u v (by simpa using World.var?_cell hg0 hv0 0)
  obtain ⟨a0,s0,rfl,hc0,hs0,hz0,rfl⟩:=errorString_of_trod hi hrow hp he hft hfo hs hc hcs hd0 ok0;obtain ⟨bs,hl,hall,hlen⟩:=laidVars_sentinels hi hrow hp he hft hfo hs hc hcs l (fun y hy=>hx y (List.mem_cons_of_mem _ hy)) q0 hr (fun b off hb=>hrows b off (by simp[hb]))
  refine ⟨a0 :: bs,by simp[hl],fun i y a hy ha=>?_,by simp[MemPlace.row,hlen];omega⟩
  cases i with
  |zero=>
   simp at hy ha;subst hy;subst ha;refine ⟨hv0,(hrows a0.block a0.off (by simp[MemPlace.row])).1,by simp[MemPlace.row],?_⟩;exact World.cell?_spot hc0
  |succ i=>
   simp at hy ha;obtain ⟨h1,h2,h3,h4⟩:=hall i y a hy ha;refine ⟨h1,h2,?_,h4⟩;rw[show 2*(i+1)+1=2*i+1+2 from by omega];simp[MemPlace.row,h3]
theorem laidVars_drop{P:Program}{W:World}:∀(k:Nat) (l:List (String × DataW Unit)) (ps:List MemPlace),DataW.LaidVars P W l ps→∃q,DataW.LaidVars P W (l.drop k) q∧q.Sublist ps
 |0,l,ps,h=>⟨ps,h,List.Sublist.refl _⟩
 |k+1,[],ps,h=>⟨ps,h,List.Sublist.refl _⟩
 |k+1,x :: l,ps,h=>by
  obtain ⟨g0,t0,cs0,f0,p0,q0,hg0,ht0,hv0,hd0,hr,e0⟩:=h;obtain ⟨q,h1,h2⟩:=laidVars_drop k l q0 hr;subst e0;exact ⟨q,h1,h2.trans (List.sublist_append_right _ _)⟩
theorem laidVars_take{P:Program}{W:World}:∀(k:Nat) (l:List (String × DataW Unit)) (ps:List MemPlace),DataW.LaidVars P W l ps→∃q,DataW.LaidVars P W (l.take k) q∧q.Sublist ps
 |0,l,ps,h=>⟨[],rfl,List.nil_sublist _⟩
 |k+1,[],ps,h=>⟨ps,h,List.Sublist.refl _⟩
 |k+1,x :: l,ps,h=>by
  obtain ⟨g0,t0,cs0,f0,p0,q0,hg0,ht0,hv0,hd0,hr,e0⟩:=h;obtain ⟨q,h1,h2⟩:=laidVars_take k l q0 hr;subst e0;exact ⟨_,⟨g0,t0,cs0,f0,p0,q,hg0,ht0,hv0,hd0,h1,rfl⟩,List.Sublist.append (List.Sublist.refl _) h2⟩
theorem laidMet_part{P:Program}{W:World}{l:List (String × DataW Unit)}(h:laidMet P l W)(i k:Nat):laidMet P ((l.drop i).take k) W:=by
 obtain ⟨ps,hL,hnd,hrows⟩:=h;obtain ⟨q,h1,h2⟩:=laidVars_drop i l ps hL;obtain ⟨r,h3,h4⟩:=laidVars_take k _ q h1;have hs:=h4.trans h2;exact ⟨r,h3,hnd.sublist hs,fun b off hb=>hrows b off (hs.subset hb)⟩
end Go
namespace Go.Proofs.YtciaficoeajeaaaGreatDoor
open Go.RowKit Qh
def errName:String:=match (Rows.laid_quiescent_api_ErrText:DataW Unit)with
 |.iface t _=>t
 |_=>default
def textOf:DataW Unit→List UInt8
 |.iface _ (.ptr (.agg [.lit (.string s)]))=>s
 |_=>[]
theorem errRow(u:TypeId)(h : Tryz.prog.typeName? 3 u=some errName):u = 241:=
 typeName_ptr_named (nm := "errors.errorString") (by kernel_rfl) (by kernel_rfl) (by decide) u (h.trans (by kernel_rfl))
noncomputable def nine : List (String × DataW Unit) := [("quiescent/api.ErrText", Rows.laid_quiescent_api_ErrText), ("quiescent/api.ErrBound", Rows.laid_quiescent_api_ErrBound), ("quiescent/api.ErrShape", Rows.laid_quiescent_api_ErrShape), ("quiescent/api.ErrName", Rows.laid_quiescent_api_ErrName), ("quiescent/api.ErrNone", Rows.laid_quiescent_api_ErrNone), ("quiescent/api.ErrFull", Rows.laid_quiescent_api_ErrFull), ("quiescent/api.ErrStale", Rows.laid_quiescent_api_ErrStale), ("quiescent/api.ErrHeld", Rows.laid_quiescent_api_ErrHeld), ("quiescent/api.ErrDone", Rows.laid_quiescent_api_ErrDone)]
noncomputable def laidL:List (String × List UInt8 × Nat):=nine.map fun x=>(x.1,textOf x.2,(Tryz.prog.globalNamed x.1).getD 0)
theorem laidL_map:(laidL.map fun x=>(x.1,(.iface errName (.ptr (.agg [.lit (.string x.2.1)])):DataW Unit)))=nine:=by kernel_rfl
theorem laidL_ok:(laidL.all fun x=>decide (Tryz.prog.globalNamed x.1=some x.2.2)&&decide ((Tryz.prog.globals[x.2.2]?).map (·.type)=some 31))=true:=by kernel_rfl
theorem laidL_nums:laidL.map (·.2.2)=(List.range 9).map errG:=by kernel_rfl
noncomputable def hd10 : String × DataW Unit := ("errors.errorType", Rows.laid_errors_errorType)
theorem hd10_funcs:hd10.2.funcsIn?.isNone=true:=by kernel_rfl
theorem hd10_name:hd10.2.handleName? = some [101,114,114,111,114]:=by kernel_rfl
theorem hd10_num : Tryz.prog.globalNamed hd10.1=some 5:=by kernel_rfl
noncomputable def errRows:List Nat:=(List.range Tryz.prog.types.size).filter fun t=>Tryz.prog.rowNamed t [101,114,114,111,114]
theorem errOneRow:errRows=[31]:=by kernel_rfl
theorem rtypeNum : (Tryz.prog.cutTypes.find? (·.1 == "internal/reflectlite.rtype")).map (·.2) = some 206 := by kernel_rfl
theorem errHandle:typeHandle Tryz.prog 31 = .pointer (some ⟨10,31,none⟩):=by kernel_rfl
theorem errs_of_laid_q{laid:List (String × DataW Unit)}{k:Nat}(C:(laid.filter fun x=>x.2.handleName?.isSome)=[hd10]∧((laid.filter fun x=>x.2.handleName?.isNone).drop k).take 9=nine){W:World}(h:laidMetH Tryz.prog laid W):∃a,ErrsAt W a:=by
 unfold laidMetH at h;rw[C.1]at h;obtain ⟨hL0,hh⟩:=h;have hL1:=laidMet_part hL0 k 9;rw[C.2,←laidL_map]at hL1;obtain ⟨ps,hL,hnd,hrows⟩:=hL1
 have hok:∀x∈laidL,Tryz.prog.globalNamed x.1=some x.2.2∧(Tryz.prog.globals[x.2.2]?).map (·.type)=some 31:=fun x hx=>by
  have:=List.all_eq_true.1 laidL_ok x hx
  simpa using this
 obtain ⟨bs,hl,hall,hlen⟩:=laidVars_sentinels Tryz.underlying31 errRow Tryz.underlying241 Tryz.underlying261 rfl rfl Tryz.underlying9 (by kernel_rfl) (by kernel_rfl) laidL hok ps hL hrows
 have hl9:laidL.length=9:=by have:=congrArg List.length laidL_nums;simpa using this
 have hnum:∀i (hi:i<9),∃x,laidL[i]?=some x∧x.2.2=errG i:=fun i hi=>by
  have h1:(laidL.map (·.2.2))[i]?=some (errG i):=by
   rw[laidL_nums,List.getElem?_map,List.getElem?_range hi];rfl
  rw[List.getElem?_map]at h1;obtain ⟨x,hx,e⟩:=Option.map_eq_some_iff.1 h1;exact ⟨x,hx,e⟩
 have hb:∀i,i<9→bs[i]?=some (bs.getD i default):=fun i hi=>by
  have:i<bs.length:=by omega
  simp[List.getD,this]
 refine ⟨fun i=>bs.getD i default,fun i hi=>?_,fun i hi=>?_,fun i j hi hj hne e=>?_,?_⟩
 ·obtain ⟨x,hx,e⟩:=hnum i hi;obtain ⟨h1,-⟩:=hall i x _ hx (hb i hi);have hg:=(hok x (List.mem_of_getElem? hx)).1;rw[e]at hg
  simpa using World.var?_cell hg h1 0
 ·obtain ⟨x,hx,e⟩:=hnum i hi;obtain ⟨-,h2,-⟩:=hall i x _ hx (hb i hi);exact h2
 ·obtain ⟨x,hx,-⟩:=hnum i hi;obtain ⟨y,hy,-⟩:=hnum j hj;obtain ⟨-,-,h3,-⟩:=hall i x _ hx (hb i hi);obtain ⟨-,-,h4,-⟩:=hall j y _ hy (hb j hj);have e':bs.getD i default=bs.getD j default:=e;rw[e',←h4]at h3;have hp:=List.pairwise_iff_getElem.1 hnd
  have l1:2*i+1<ps.length:=by omega
  have l2:2*j+1<ps.length:=by omega
  rw[List.getElem?_eq_getElem l1,List.getElem?_eq_getElem l2]at h3;have h3':=Option.some.inj h3
  rcases Nat.lt_or_gt_of_ne hne with hlt|hlt
  ·exact hp (2*i+1) (2*j+1) l1 l2 (by omega) h3'
  ·exact hp (2*j+1) (2*i+1) l2 l1 (by omega) h3'.symm
 ·have h1:=hh hd10 (List.mem_singleton.2 rfl)
  have h0:hd10.2.funcsIn? = none:=by simpa using hd10_funcs
  rw[h0]at h1;obtain ⟨name,u,ty,e1,e2,e3,e4,e5⟩:=h1;have en:name=[101,114,114,111,114]:=(Option.some.inj (hd10_name.symm.trans e1)).symm;subst en;obtain rfl:=Option.some.inj (rtypeNum.symm.trans e2);have hm:ty∈errRows:=List.mem_filter.2 ⟨List.mem_range.2 e3,e4⟩;rw[errOneRow]at hm
  obtain rfl:=List.mem_singleton.1 hm;rw[errHandle]at e5
  simpa using World.var?_cell hd10_num e5 0
end Go.Proofs.YtciaficoeajeaaaGreatDoor
