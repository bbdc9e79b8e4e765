/- package memory: Peek, Free, Swap, Cas. -/
import Derived.Test.YtciaficoeajeaaaGreatDoorWFm8
import Derived.Test.YtciaficoeajeaaaGreatDoorWFm4
import Derived.Deep.RegionHeld3
import Derived.StillTailTactics
import Derived.Deep.RegionWith
set_option linter.unusedVariables false
set_option linter.unusedSimpArgs false
set_option linter.unusedSectionVars false
set_option maxHeartbeats 4000000
set_option maxRecDepth 100000
namespace Go.Proofs.YtciaficoeajeaaaGreatDoor
open Go.RowKit Qs Qh
variable {w:World}{B:PB}{l:List Cell}{ws:List (List Wt)}{vs:List Value}{a:Nat→Addr}
theorem ppeek_any(h:PMV w B l ws vs)(E:Errs4 w a)(C:CellsOk l)(c r W_:Int) :
  Calls Tryz.prog 62 #[.pointer (some ⟨B.bM,0,none⟩),.agg #[.int .i64 c,.int .i64 r],.int .i64 W_] w fun e w'=>e=.returned (.tuple #[.int .i64 (loadE l c r W_).1,errOf' a (loadE l c r W_).2])∧Mod noF w w':=by
 have hq0:=(Mod.refl noF w).alloc (refBox c r);have h2:=h.keep0 hq0;have E2:=E.keep hq0;have hbx:=heap_alloc_new w (refBox c r);obtain ⟨wz,hwz⟩:∃wz,wz=w.alloc (refBox c r):=⟨_,rfl⟩;rw[←hwz]at h2 hbx E2 hq0
 have hS:∀W,Mod noF wz.drew W→(Mod noF wz.drew W∧W.cell? ⟨B.bM,0,none⟩=some (.pointer (some ⟨B.bA,0,none⟩))∧W.cell? ⟨w.heap.size,0,none⟩=some (.int .i64 c)∧W.cell? ⟨w.heap.size,1,none⟩=some (.int .i64 r)):=by
  intro W hW;have hz:=(Mod.refl noF wz).drew.trans0 hW;have hx:=hz.heap hbx (fun e=>e);exact ⟨hW,(h2.keep0 hz).ptr,(cell_of_heap hx 0).trans rfl,(cell_of_heap hx 1).trans rfl⟩
 have hcall:∀W,Mod noF wz.drew W→Calls Tryz.prog 104 #[.pointer (some ⟨B.bA,0,none⟩),.agg #[.int .i64 c,.int .i64 r],.int .i64 W_] W fun e w'=>e=.returned (.tuple #[.int .i64 (loadE l c r W_).1,errOf' a (loadE l c r W_).2])∧Mod noF wz.drew W∧Mod noF wz.drew w':=by
  intro W hW;have hz:=(Mod.refl noF wz).drew.trans0 hW;exact (aload_any (h2.keep0 hz).arena (E2.keep hz) C.len C.times c r W_).mono fun e w' h=>⟨h.1,hW,hW.trans0 h.2⟩
 obtain ⟨-,z0,z1,z2⟩:=hS wz.drew (Mod.refl _ _);have zb:=h2.lt (x:=B.bM) (.inl rfl);have zx:=lt_of_block hbx;have HS:=Lib.hid hS;have Hcall:=Lib.hid hcall;clear hS hcall;have Hq0:=Lib.hid hq0;generalize errOf' a (loadE l c r W_).2=ev at *;generalize (loadE l c r W_).1=v at *
 clear h h2 E E2 C hq0 hbx
 go_enter Tryz.func62,Tryz.ntmps62
 go_wp2;rw[←hwz];clear hwz
 go_region_held3 (fun W=>Mod noF wz.drew W∧W.cell? ⟨B.bM,0,none⟩=some (.pointer (some ⟨B.bA,0,none⟩))∧W.cell? ⟨w.heap.size,0,none⟩=some (.int .i64 c)∧W.cell? ⟨w.heap.size,1,none⟩=some (.int .i64 r)) ((refine HS.out _ ?_;first|assumption|exact Mod.refl _ _)) (first|(go_at_call 104;go_split_ands;refine (Hcall.out _ ?_).mono ?_;assumption;rintro e w1 ⟨rfl,hm0,hm1⟩))
 have hm1:=(Mod.refl noF wz).drew.trans0 hm1;have Hm1:=Lib.hid hm1;clear hm1;go_wp2;go_ret2;exact ⟨rfl,Hq0.out.trans0 Hm1.out⟩
theorem here_of_load{l:List Cell}{c r W x:Int}(h:loadE l c r W=(x,0)):hereIn l c r=true:=by
 cases e:hereIn l c r with
 |true=>rfl
 |false=>unfold loadE at h;rw[e]at h;simp at h
theorem here_drained:∀(q:List Wt) (l:List Cell) (c r:Int),hereIn (drainAll l q).1 c r=hereIn l c r
 |[],l,c,r=>rfl
 |x :: q,l,c,r=>by
  simp only[drainAll];rw[here_drained q (drain1 l x).1 c r,hereIn_drain]
theorem rowOf{w:World}{g:Nat}{L:List Int}{T:TypeId}{o:Obj}(h:w.heap[g]?=some o)(ho:o=.cells (L.map iv).toArray T){n:Nat}(hn:L.length=n):intsRow w (.slice (some ⟨g,0,none⟩) n n) L:=by
 subst ho;subst hn;refine ⟨some ⟨g,0,none⟩,L.length,rfl,fun i m hi=>⟨g,0,rfl,lt_of_block h,?_⟩⟩;rw[Nat.zero_add,cell_of_heap h];simp[hi,iv]
theorem pfree_ok{b0:World}(h:PMV w B l ws vs)(E:PLow b0 w a B vs)(C:CellsOk l)(hn6:ws.length≤6){t:Nat}{q:List Wt}(hq:ws[t]?=some q)(hql:q.length≤8)(hw:okW q)(c r:Int)(x:Int)(he:loadE l c r 0=(x,0))(hbad:badN l q=0) :
  Calls Tryz.prog 95 #[.pointer (some ⟨B.bM,0,none⟩),.int .i64 t,.agg #[.int .i64 c,.int .i64 r]] w fun e w'=>e=.returned .nilIface∧∃vs',PUp w B vs w' ((drainAll l q).1.modify c.toNat fun y=>{y with here:=false}) (ws.set t []) vs':=by
 have hq0:=((Mod.refl noF w).alloc (refBox c r));have h2:=h.keep0 hq0;have hu:=PUp.quiet h hq0;have E2:=E.keep hq0;have hbx:=heap_alloc_new w (refBox c r);have hR:intsRow (w.alloc (refBox c r)) (.slice none 0 0) []:=⟨none,0,rfl,fun i n hi=>by simp at hi⟩
 have hnf:¬PFoot B vs w.heap.size:=fun hx=>Nat.lt_irrefl _ (h.lt hx);have hcall:=pwhole_ok h2 E2 C hn6 hq hql c r 0 hR (by simp) hw x he rfl;rw[hbad]at hcall;simp only[errOf',if_true]at hcall;have Hwh:=Lib.hid hcall;have Hu:=Lib.hid hu;have HE:=Lib.hid E2;have HC:=Lib.hid C;have Hbx:=Lib.hid hbx
 have Hnf:=Lib.hid hnf;have Hin:=Lib.hid (here_of_load he);clear hcall h h2 hu hq0 E E2 C hbx hR hnf hq he hbad
 go_enter Tryz.func95,Tryz.ntmps95
 go_wp2_with fail
 refine Hwh.out.mono ?_;rintro e w1 ⟨rfl,vs1,hu1⟩;have hx1:=hu1.heap Hnf.out Hbx.out;have E1:=HE.out.up hu1;have hlt1:w.heap.size≠B.gA:=fun e=>Hnf.out (e ▸ .inr (.inr (.inl rfl)));have Hu1:=Lib.hid (Hu.out.trans hu1);have HP1:=Lib.hid hu1.rep;have HE1:=Lib.hid E1;have HX1:=Lib.hid hx1
 have p1:=hu1.rep.ptr;have pb:=hu1.rep.lt (x:=B.bM) (.inl rfl);have r0:w1.cell? ⟨w.heap.size,0,none⟩=some (.int .i64 c):=(cell_of_heap hx1 0).trans rfl;have r1:w1.cell? ⟨w.heap.size,1,none⟩=some (.int .i64 r):=(cell_of_heap hx1 1).trans rfl;have rb:=lt_of_block hx1;clear hu1 hx1 E1 Hwh
 go_wp2_with fail
 refine wp_region_still_tail 5 (by kernel_rfl) (by kernel_rfl) ?_;simp only[List.take_succ_cons,List.take_zero,List.drop_succ_cons,List.drop_zero,World.drew_eq]
 repeat (first|still_step)
 refine wpStill_nil ?_
 go_wp2_with fail
 have hcall:=afree_any (HP1.out.arena.keep0 (Mod.refl noF w1).drew) (HE1.out.E.keep (Mod.refl noF w1).drew) (HC.out.drainAll q).len (HC.out.drainAll q).times c r;rw[here_drained,Hin.out,if_pos rfl,if_pos rfl]at hcall;simp only[errOf',if_true]at hcall;refine hcall.mono ?_;clear hcall
 rintro e w2 ⟨rfl,hm2,A2⟩;have hup:=(Hu1.out.then0 (Mod.refl noF w1).drew).trans ((HP1.out.keep0 (Mod.refl noF w1).drew).cells hm2 A2);have Hup:=Lib.hid hup;clear hup hm2 A2;go_wp2;go_ret;exact ⟨rfl,_,Hup.out⟩
theorem load_range{l:List Cell}{c r W x:Int}(h:loadE l c r W=(x,0)):0≤W∧W<4:=by
 unfold loadE at h;rw[here_of_load h,if_pos rfl]at h
 by_cases e:0≤W∧W<4
 ·exact e
 ·rw[if_neg e]at h;simp at h
theorem load_drained{l:List Cell}{c r W x:Int}(q:List Wt)(h:loadE l c r W=(x,0)):loadE (drainAll l q).1 c r W=(getWord (drainAll l q).1 c.toNat W.toNat,0):=by
 unfold loadE;rw[here_drained,here_of_load h,if_pos rfl,if_pos (load_range h)]
theorem store_drained{l:List Cell}{c r W x V:Int}(q:List Wt)(h:loadE l c r W=(x,0))(hv:isWord V=true):storeE (drainAll l q).1 c r W V=0:=by
 unfold storeE;rw[here_drained,here_of_load h,if_pos rfl,if_pos (load_range h),if_pos hv]
theorem pswap_ok{b0:World}(h:PMV w B l ws vs)(E:PLow b0 w a B vs)(C:CellsOk l)(hn6:ws.length≤6){t:Nat}{q:List Wt}(hq:ws[t]?=some q)(hql:q.length≤8)(hw:okW q)(c r:Int)(W_ V:Int)(x:Int)(he:loadE l c r W_=(x,0))(hbad:badN l q=0)(hv:isWord V=true) :
  Calls Tryz.prog 92 #[.pointer (some ⟨B.bM,0,none⟩),.int .i64 t,.agg #[.int .i64 c,.int .i64 r],.int .i64 W_,.int .i64 V] w fun e w'=>e=.returned (.tuple #[.int .i64 (getWord (drainAll l q).1 c.toNat W_.toNat),.nilIface])∧∃vs',PUp w B vs w' (setWord (drainAll l q).1 c.toNat W_.toNat V) (ws.set t []) vs':=by
 have Hld:=Lib.hid (load_drained q he);have Hse:=Lib.hid (store_drained q he hv);have hq0:=(((Mod.refl noF w).alloc (refBox c r)).alloc (.cells #[.int .i64 V] 3));have h2:=h.keep0 hq0;have hu:=PUp.quiet h hq0;have E2:=E.keep hq0
 have hbx:=(Mod.refl noF (w.alloc (refBox c r))).alloc (.cells #[.int .i64 V] 3) |>.heap (heap_alloc_new w (refBox c r)) (fun e=>e)
 have hby:=heap_alloc_new (w.alloc (refBox c r)) (.cells #[.int .i64 V] 3);rw[World.size_alloc]at hby;have hR:intsRow ((w.alloc (refBox c r)).alloc (.cells #[.int .i64 V] 3)) (.slice (some ⟨w.heap.size+1,0,none⟩) 1 1) [V]:=rowOf hby rfl rfl
 have hnf:¬PFoot B vs w.heap.size:=fun hx=>Nat.lt_irrefl _ (h.lt hx);have hcall:=pwhole_ok h2 E2 C hn6 hq hql c r W_ hR (by simp) hw x he (by simp[hv]);rw[hbad]at hcall;simp only[errOf',if_true]at hcall;have Hwh:=Lib.hid hcall;have Hu:=Lib.hid hu;have HE:=Lib.hid E2;have HC:=Lib.hid C
 have Hbx:=Lib.hid hbx;have Hnf:=Lib.hid hnf;have Hin:=Lib.hid (here_of_load he);clear hcall h h2 hu hq0 E E2 C hbx hby hR hnf hq he hbad
 go_enter Tryz.func92,Tryz.ntmps92
 go_wp2_with fail
 refine Hwh.out.mono ?_;rintro e w1 ⟨rfl,vs1,hu1⟩;have hx1:=hu1.heap Hnf.out Hbx.out;have E1:=HE.out.up hu1;have hlt1:w.heap.size≠B.gA:=fun e=>Hnf.out (e ▸ .inr (.inr (.inl rfl)));have Hu1:=Lib.hid (Hu.out.trans hu1);have HP1:=Lib.hid hu1.rep;have HE1:=Lib.hid E1;have HX1:=Lib.hid hx1
 have p1:=hu1.rep.ptr;have pb:=hu1.rep.lt (x:=B.bM) (.inl rfl);have r0:w1.cell? ⟨w.heap.size,0,none⟩=some (.int .i64 c):=(cell_of_heap hx1 0).trans rfl;have r1:w1.cell? ⟨w.heap.size,1,none⟩=some (.int .i64 r):=(cell_of_heap hx1 1).trans rfl;have rb:=lt_of_block hx1;clear hu1 hx1 E1 Hwh
 have hS:∀W,Mod noF w1.drew W→(Mod noF w1.drew W∧W.cell? ⟨B.bM,0,none⟩=some (.pointer (some ⟨B.bA,0,none⟩))∧W.cell? ⟨w.heap.size,0,none⟩=some (.int .i64 c)∧W.cell? ⟨w.heap.size,1,none⟩=some (.int .i64 r)):=by
  intro W hW;have hz:=(Mod.refl noF w1).drew.trans0 hW;have hx:=hz.heap HX1.out (fun e=>e);exact ⟨hW,(HP1.out.keep0 hz).ptr,(cell_of_heap hx 0).trans rfl,(cell_of_heap hx 1).trans rfl⟩
 have hcall:∀W,Mod noF w1.drew W→Calls Tryz.prog 104 #[.pointer (some ⟨B.bA,0,none⟩),.agg #[.int .i64 c,.int .i64 r],.int .i64 W_] W fun e w'=>e=.returned (.tuple #[.int .i64 (loadE (drainAll l q).1 c r W_).1,errOf' a (loadE (drainAll l q).1 c r W_).2])∧Mod noF w1.drew W∧Mod noF w1.drew w':=by
  intro W hW;have hz:=(Mod.refl noF w1).drew.trans0 hW;exact (aload_any (HP1.out.keep0 hz).arena (HE1.out.E.keep hz) (HC.out.drainAll q).len (HC.out.drainAll q).times c r W_).mono fun e w' h=>⟨h.1,hW,hW.trans0 h.2⟩
 obtain ⟨-,z0,z1,z2⟩:=hS w1.drew (Mod.refl _ _);have zb:=HP1.out.lt (x:=B.bM) (.inl rfl);have zx:=lt_of_block HX1.out;rw[Hld.out]at hcall;simp only[errOf',if_true]at hcall;have HS:=Lib.hid hS;have Hcall:=Lib.hid hcall;clear hS hcall;go_wp2
 go_region_held3 (fun W=>Mod noF w1.drew W∧W.cell? ⟨B.bM,0,none⟩=some (.pointer (some ⟨B.bA,0,none⟩))∧W.cell? ⟨w.heap.size,0,none⟩=some (.int .i64 c)∧W.cell? ⟨w.heap.size,1,none⟩=some (.int .i64 r)) ((refine HS.out _ ?_;first|assumption|exact Mod.refl _ _)) (first|(go_at_call 104;go_split_ands;refine (Hcall.out _ ?_).mono ?_;assumption;rintro e w2 ⟨rfl,hm0,hm1⟩))
 have hm1:=(Mod.refl noF w1).drew.trans0 hm1;have hx2:=hm1.heap HX1.out (fun e=>e);have P2:=HP1.out.keep0 hm1;have p1:=P2.ptr;have pb:=P2.lt (x:=B.bM) (.inl rfl);have r0:w2.cell? ⟨w.heap.size,0,none⟩=some (.int .i64 c):=(cell_of_heap hx2 0).trans rfl
 have r1:w2.cell? ⟨w.heap.size,1,none⟩=some (.int .i64 r):=(cell_of_heap hx2 1).trans rfl;have rb:=lt_of_block hx2;have HP2:=Lib.hid P2;have HE2:=Lib.hid (HE1.out.keep hm1);have Hu2:=Lib.hid (Hu1.out.then0 hm1);generalize hold:getWord (drainAll l q).1 c.toNat W_.toNat=old at *
 have Hold:=Lib.hid hold;clear hm1 hx2 P2 hold;have hcall:=astore_any (HP2.out.arena.keep0 (Mod.refl noF w2).drew) (HE2.out.E.keep (Mod.refl noF w2).drew) (HC.out.drainAll q).len (HC.out.drainAll q).times (HC.out.drainAll q).words c r W_ V;rw[Hse.out,if_pos rfl]at hcall
 simp only[errOf',if_true]at hcall;have Hst:=Lib.hid hcall;clear hcall;have p1d:w2.drew.cell? ⟨B.bM,0,none⟩=some (.pointer (some ⟨B.bA,0,none⟩)):=p1;have r0d:w2.drew.cell? ⟨w.heap.size,0,none⟩=some (.int .i64 c):=r0;have r1d:w2.drew.cell? ⟨w.heap.size,1,none⟩=some (.int .i64 r):=r1
 go_wp2_with fail
 go_region_with (go_at_call 42;refine Hst.out.mono ?_;rintro e w3 ⟨rfl,hm3,A3⟩)
 all_goals
  have hup:=(Hu2.out.then0 (Mod.refl noF w2).drew).trans ((HP2.out.keep0 (Mod.refl noF w2).drew).cells hm3 A3);have Hup:=Lib.hid hup;clear hup hm3 A3;go_wp2;go_ret2;exact ⟨by rw[Hold.out];rfl,_,Hup.out⟩
def casP(w:World)(B:PB)(vs:List Value)(l:List Cell)(ws:List (List Wt))(t:Nat)(q:List Wt)(c r W_ O V:Int)(e:Ending)(w':World):Prop:=
 e=.returned (.tuple #[.int .i64 (getWord (drainAll l q).1 c.toNat W_.toNat),.nilIface])∧∃vs',PUp w B vs w' (if getWord (drainAll l q).1 c.toNat W_.toNat=O then setWord (drainAll l q).1 c.toNat W_.toNat V else (drainAll l q).1) (ws.set t []) vs'
theorem pcas_ok{b0:World}(h:PMV w B l ws vs)(E:PLow b0 w a B vs)(C:CellsOk l)(hn6:ws.length≤6){t:Nat}{q:List Wt}(hq:ws[t]?=some q)(hql:q.length≤8)(hw:okW q)(c r:Int)(W_ O V:Int)(x:Int)(he:loadE l c r W_=(x,0))(hbad:badN l q=0)(hv:isWord V=true)(hvo:isWord O=true) :
  Calls Tryz.prog 93 #[.pointer (some ⟨B.bM,0,none⟩),.int .i64 t,.agg #[.int .i64 c,.int .i64 r],.int .i64 W_,.int .i64 O,.int .i64 V] w (casP w B vs l ws t q c r W_ O V):=by
 have Hld:=Lib.hid (load_drained q he);have Hse:=Lib.hid (store_drained q he hv);have hq0:=(((Mod.refl noF w).alloc (refBox c r)).alloc (.cells #[.int .i64 O,.int .i64 V] 3));have h2:=h.keep0 hq0;have hu:=PUp.quiet h hq0;have E2:=E.keep hq0
 have hbx:=(Mod.refl noF (w.alloc (refBox c r))).alloc (.cells #[.int .i64 O,.int .i64 V] 3) |>.heap (heap_alloc_new w (refBox c r)) (fun e=>e)
 have hby:=heap_alloc_new (w.alloc (refBox c r)) (.cells #[.int .i64 O,.int .i64 V] 3);rw[World.size_alloc]at hby;have hR:intsRow ((w.alloc (refBox c r)).alloc (.cells #[.int .i64 O,.int .i64 V] 3)) (.slice (some ⟨w.heap.size+1,0,none⟩) 2 2) [O,V]:=rowOf hby rfl rfl
 have hnf:¬PFoot B vs w.heap.size:=fun hx=>Nat.lt_irrefl _ (h.lt hx);have hcall:=pwhole_ok h2 E2 C hn6 hq hql c r W_ hR (by simp) hw x he (by simp[hv,hvo]);rw[hbad]at hcall;simp only[errOf',if_true]at hcall;have Hwh:=Lib.hid hcall;have Hu:=Lib.hid hu;have HE:=Lib.hid E2;have HC:=Lib.hid C
 have Hbx:=Lib.hid hbx;have Hnf:=Lib.hid hnf;have Hin:=Lib.hid (here_of_load he);clear hcall h h2 hu hq0 E E2 C hbx hby hR hnf hq he hbad
 go_enter Tryz.func93,Tryz.ntmps93
 go_wp2_with fail
 refine Hwh.out.mono ?_;rintro e w1 ⟨rfl,vs1,hu1⟩;have hx1:=hu1.heap Hnf.out Hbx.out;have E1:=HE.out.up hu1;have hlt1:w.heap.size≠B.gA:=fun e=>Hnf.out (e ▸ .inr (.inr (.inl rfl)));have Hu1:=Lib.hid (Hu.out.trans hu1);have HP1:=Lib.hid hu1.rep;have HE1:=Lib.hid E1;have HX1:=Lib.hid hx1
 have p1:=hu1.rep.ptr;have pb:=hu1.rep.lt (x:=B.bM) (.inl rfl);have r0:w1.cell? ⟨w.heap.size,0,none⟩=some (.int .i64 c):=(cell_of_heap hx1 0).trans rfl;have r1:w1.cell? ⟨w.heap.size,1,none⟩=some (.int .i64 r):=(cell_of_heap hx1 1).trans rfl;have rb:=lt_of_block hx1;clear hu1 hx1 E1 Hwh
 have hS:∀W,Mod noF w1.drew W→(Mod noF w1.drew W∧W.cell? ⟨B.bM,0,none⟩=some (.pointer (some ⟨B.bA,0,none⟩))∧W.cell? ⟨w.heap.size,0,none⟩=some (.int .i64 c)∧W.cell? ⟨w.heap.size,1,none⟩=some (.int .i64 r)):=by
  intro W hW;have hz:=(Mod.refl noF w1).drew.trans0 hW;have hx:=hz.heap HX1.out (fun e=>e);exact ⟨hW,(HP1.out.keep0 hz).ptr,(cell_of_heap hx 0).trans rfl,(cell_of_heap hx 1).trans rfl⟩
 have hcall:∀W,Mod noF w1.drew W→Calls Tryz.prog 104 #[.pointer (some ⟨B.bA,0,none⟩),.agg #[.int .i64 c,.int .i64 r],.int .i64 W_] W fun e w'=>e=.returned (.tuple #[.int .i64 (loadE (drainAll l q).1 c r W_).1,errOf' a (loadE (drainAll l q).1 c r W_).2])∧Mod noF w1.drew W∧Mod noF w1.drew w':=by
  intro W hW;have hz:=(Mod.refl noF w1).drew.trans0 hW;exact (aload_any (HP1.out.keep0 hz).arena (HE1.out.E.keep hz) (HC.out.drainAll q).len (HC.out.drainAll q).times c r W_).mono fun e w' h=>⟨h.1,hW,hW.trans0 h.2⟩
 obtain ⟨-,z0,z1,z2⟩:=hS w1.drew (Mod.refl _ _);have zb:=HP1.out.lt (x:=B.bM) (.inl rfl);have zx:=lt_of_block HX1.out;rw[Hld.out]at hcall;simp only[errOf',if_true]at hcall;have HS:=Lib.hid hS;have Hcall:=Lib.hid hcall;clear hS hcall;go_wp2
 go_region_held3 (fun W=>Mod noF w1.drew W∧W.cell? ⟨B.bM,0,none⟩=some (.pointer (some ⟨B.bA,0,none⟩))∧W.cell? ⟨w.heap.size,0,none⟩=some (.int .i64 c)∧W.cell? ⟨w.heap.size,1,none⟩=some (.int .i64 r)) ((refine HS.out _ ?_;first|assumption|exact Mod.refl _ _)) (first|(go_at_call 104;go_split_ands;refine (Hcall.out _ ?_).mono ?_;assumption;rintro e w2 ⟨rfl,hm0,hm1⟩))
 have hm1:=(Mod.refl noF w1).drew.trans0 hm1;have hx2:=hm1.heap HX1.out (fun e=>e);have P2:=HP1.out.keep0 hm1;have p1:=P2.ptr;have pb:=P2.lt (x:=B.bM) (.inl rfl);have r0:w2.cell? ⟨w.heap.size,0,none⟩=some (.int .i64 c):=(cell_of_heap hx2 0).trans rfl
 have r1:w2.cell? ⟨w.heap.size,1,none⟩=some (.int .i64 r):=(cell_of_heap hx2 1).trans rfl;have rb:=lt_of_block hx2;have HP2:=Lib.hid P2;have HE2:=Lib.hid (HE1.out.keep hm1);have Hu2:=Lib.hid (Hu1.out.then0 hm1);generalize hold:getWord (drainAll l q).1 c.toNat W_.toNat=old at *
 have Hold:=Lib.hid hold;clear hm1 hx2 P2 hold
 by_cases ho:old=O
 ·have hob:(old==O)=true:=by simpa using ho
  have Ho:=Lib.hid ho;clear ho;have hcall:=astore_any (HP2.out.arena.keep0 (Mod.refl noF w2).drew) (HE2.out.E.keep (Mod.refl noF w2).drew) (HC.out.drainAll q).len (HC.out.drainAll q).times (HC.out.drainAll q).words c r W_ V;rw[Hse.out,if_pos rfl]at hcall;simp only[errOf',if_true]at hcall
  have Hst:=Lib.hid hcall;clear hcall;have p1d:w2.drew.cell? ⟨B.bM,0,none⟩=some (.pointer (some ⟨B.bA,0,none⟩)):=p1;have r0d:w2.drew.cell? ⟨w.heap.size,0,none⟩=some (.int .i64 c):=r0;have r1d:w2.drew.cell? ⟨w.heap.size,1,none⟩=some (.int .i64 r):=r1
  go_wp2_with fail
  go_region_with (go_at_call 42;refine Hst.out.mono ?_;rintro e w3 ⟨rfl,hm3,A3⟩)
  all_goals
   have hup:=(Hu2.out.then0 (Mod.refl noF w2).drew).trans ((HP2.out.keep0 (Mod.refl noF w2).drew).cells hm3 A3);have Hup:=Lib.hid hup;clear hup hm3 A3;go_wp2;go_ret2;exact ⟨by rw[Hold.out];rfl,_,by rw[Hold.out,if_pos Ho.out];exact Hup.out⟩
 ·have hob:(old==O)=false:=by simpa using ho
  have Ho:=Lib.hid ho;clear ho;go_wp2;go_ret2;exact ⟨by rw[Hold.out];rfl,_,by rw[Hold.out,if_neg Ho.out];exact Hu2.out⟩
end Go.Proofs.YtciaficoeajeaaaGreatDoor
