/- What the rows' cell 'laid' gives a walk: nine sentinels, all different, and a type's handle; whatever else it lays. -/
import Derived.Test.YtciaficoeajeaaaGreatDoorWFm5
import Derived.Test.YtciaficoeajeaaaGreatDoorWFm3
import Derived.Stop.LaidErr
set_option linter.unusedVariables false
set_option linter.unusedSimpArgs false
set_option linter.unusedSectionVars false
namespace Go
theorem laidVars_sentinels{P:Program}{nm:String}{W:World}{ti tp te ts:TypeId}{ms:Array (String × TypeId)}{f:Field}
  (hi:P.underlying ti=some (.interface ms)) (hrow:∀u,P.typeName? 3 u=some nm→u=tp)
  (hp:P.underlying tp=some (.pointer te)) (he:P.underlying te=some (.struct #[f])) (hft:f.type=ts) (hfo:f.offset=0) (hs:P.underlying ts=some .string) (hc:P.cellsOf te=1) (hcs:P.cellsOf ts=1) :
  ∀(l:List (String × List UInt8 × Nat)),(∀x∈l,P.globalNamed x.1=some x.2.2∧(P.globals[x.2.2]?).map (·.type)=some ti)→∀ps,
   DataW.LaidVars P W (l.map fun x=>(x.1,.iface nm (.ptr (.agg [.lit (.string x.2.1)])))) ps→
   (∀b off,MemPlace.cell b off∈ps→(∃c t,W.heap[b]?=some (.cells c t (0,0)))∧∀u v,W.cell? ⟨b,off,none⟩=some (.iface u v)→Value.okWide P W .any 0 u v)→
   ∃bs:List Addr,bs.length=l.length∧(∀(i:Nat) x a,l[i]?=some x→bs[i]?=some a→W.var? P x.1=some #[.iface tp (.pointer (some a))]∧(∃c t,W.heap[a.block]?=some (.cells c t (0,0)))∧ps[2*i+1]?=some (.cell a.block a.off)∧a.spot=none)∧ps.length=2*l.length
 |[],_,ps,h,_=>⟨[],rfl,fun i x a hx=>by simp at hx,by simp only[List.map_nil,DataW.LaidVars]at h;subst h;rfl⟩
 |x :: l,hx,ps,h,hrows=>by
  obtain ⟨g0,t0,cs0,f0,p0,q0,hg0,ht0,hv0,hd0,hr,e0⟩:=h;obtain ⟨hg,ht⟩:=hx x (List.mem_cons_self ..);obtain rfl:=Option.some.inj (hg.symm.trans hg0);obtain rfl:=Option.some.inj (ht.symm.trans ht0);subst e0;obtain ⟨l0⟩:=cs0
  have ok0:∀u v,l0=[.iface u v]→Value.okWide P W .any 0 u v:=fun u v e=>by
   subst e;exact (hrows x.2.2 0 (by simp[MemPlace.row])).2 u v (by simpa using World.var?_cell hg0 hv0 0)
  obtain ⟨a0,s0,rfl,hc0,hs0,hz0,rfl⟩:=errorString_of_trod hi hrow hp he hft hfo hs hc hcs hd0 ok0;obtain ⟨bs,hl,hall,hlen⟩:=laidVars_sentinels hi hrow hp he hft hfo hs hc hcs l (fun y hy=>hx y (List.mem_cons_of_mem _ hy)) q0 hr (fun b off hb=>hrows b off (by simp[hb]))
  refine ⟨a0 :: bs,by simp[hl],fun i y a hy ha=>?_,by simp[MemPlace.row,hlen];omega⟩
  cases i with
  |zero=>
   simp at hy ha;subst hy;subst ha;refine ⟨hv0,(hrows a0.block a0.off (by simp[MemPlace.row])).1,by simp[MemPlace.row],?_⟩;exact World.cell?_spot hc0
  |succ i=>
   simp at hy ha;obtain ⟨h1,h2,h3,h4⟩:=hall i y a hy ha;refine ⟨h1,h2,?_,h4⟩;rw[show 2*(i+1)+1=2*i+1+2 from by omega];simp[MemPlace.row,h3]
theorem laidVars_drop{P:Program}{W:World}:∀(k:Nat) (l:List (String × DataW Unit)) (ps:List MemPlace),DataW.LaidVars P W l ps→∃q,DataW.LaidVars P W (l.drop k) q∧q.Sublist ps
 |0,l,ps,h=>⟨ps,h,List.Sublist.refl _⟩
 |k+1,[],ps,h=>⟨ps,h,List.Sublist.refl _⟩
 |k+1,x :: l,ps,h=>by
  obtain ⟨g0,t0,cs0,f0,p0,q0,hg0,ht0,hv0,hd0,hr,e0⟩:=h;obtain ⟨q,h1,h2⟩:=laidVars_drop k l q0 hr;subst e0;exact ⟨q,h1,h2.trans (List.sublist_append_right _ _)⟩
theorem laidVars_take{P:Program}{W:World}:∀(k:Nat) (l:List (String × DataW Unit)) (ps:List MemPlace),DataW.LaidVars P W l ps→∃q,DataW.LaidVars P W (l.take k) q∧q.Sublist ps
 |0,l,ps,h=>⟨[],rfl,List.nil_sublist _⟩
 |k+1,[],ps,h=>⟨ps,h,List.Sublist.refl _⟩
 |k+1,x :: l,ps,h=>by
  obtain ⟨g0,t0,cs0,f0,p0,q0,hg0,ht0,hv0,hd0,hr,e0⟩:=h;obtain ⟨q,h1,h2⟩:=laidVars_take k l q0 hr;subst e0;exact ⟨_,⟨g0,t0,cs0,f0,p0,q,hg0,ht0,hv0,hd0,h1,rfl⟩,List.Sublist.append (List.Sublist.refl _) h2⟩
theorem laidMet_part{P:Program}{W:World}{l:List (String × DataW Unit)}(h:laidMet P l W)(i k:Nat):laidMet P ((l.drop i).take k) W:=by
 obtain ⟨ps,hL,hnd,hrows⟩:=h;obtain ⟨q,h1,h2⟩:=laidVars_drop i l ps hL;obtain ⟨r,h3,h4⟩:=laidVars_take k _ q h1;have hs:=h4.trans h2;exact ⟨r,h3,hnd.sublist hs,fun b off hb=>hrows b off (hs.subset hb)⟩
end Go
namespace Go.Proofs.YtciaficoeajeaaaGreatDoor
open Go.RowKit Qh
def errName:String:=match (Rows.laid_quiescent_api_ErrText:DataW Unit)with
 |.iface t _=>t
 |_=>default
def textOf:DataW Unit→List UInt8
 |.iface _ (.ptr (.agg [.lit (.string s)]))=>s
 |_=>[]
theorem errRow(u:TypeId)(h : Tryz.prog.typeName? 3 u=some errName):u = 241:=
 typeName_ptr_named (nm := "errors.errorString") (by kernel_rfl) (by kernel_rfl) (by decide) u (h.trans (by kernel_rfl))
noncomputable def nine : List (String × DataW Unit) := [("quiescent/api.ErrText", Rows.laid_quiescent_api_ErrText), ("quiescent/api.ErrBound", Rows.laid_quiescent_api_ErrBound), ("quiescent/api.ErrShape", Rows.laid_quiescent_api_ErrShape), ("quiescent/api.ErrName", Rows.laid_quiescent_api_ErrName), ("quiescent/api.ErrNone", Rows.laid_quiescent_api_ErrNone), ("quiescent/api.ErrFull", Rows.laid_quiescent_api_ErrFull), ("quiescent/api.ErrStale", Rows.laid_quiescent_api_ErrStale), ("quiescent/api.ErrHeld", Rows.laid_quiescent_api_ErrHeld), ("quiescent/api.ErrDone", Rows.laid_quiescent_api_ErrDone)]
noncomputable def hd10 : String × DataW Unit := ("errors.errorType", Rows.laid_errors_errorType)
theorem hd10_funcs:hd10.2.funcsIn?.isNone=true:=by kernel_rfl
theorem hd10_name:hd10.2.handleName? = some [101,114,114,111,114]:=by kernel_rfl
theorem hd10_num : Tryz.prog.globalNamed hd10.1=some 5:=by kernel_rfl
noncomputable def errRows:List Nat:=(List.range Tryz.prog.types.size).filter fun t=>Tryz.prog.rowNamed t [101,114,114,111,114]
theorem errOneRow:errRows=[31]:=by kernel_rfl
theorem rtypeNum : (Tryz.prog.cutTypes.find? (·.1 == "internal/reflectlite.rtype")).map (·.2) = some 206 := by kernel_rfl
theorem errHandle:typeHandle Tryz.prog 31 = .pointer (some ⟨10,31,none⟩):=by kernel_rfl
end Go.Proofs.YtciaficoeajeaaaGreatDoor
