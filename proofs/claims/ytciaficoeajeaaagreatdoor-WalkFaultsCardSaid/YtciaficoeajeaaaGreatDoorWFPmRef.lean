/- The program's machine: ref. -/
import Derived.Test.YtciaficoeajeaaaGreatDoorWFm8
import Derived.Test.YtciaficoeajeaaaGreatDoorWFPOps
set_option linter.unusedVariables false
set_option linter.unusedSimpArgs false
set_option linter.unusedSectionVars false
set_option maxHeartbeats 4000000
namespace Go.Proofs.YtciaficoeajeaaaGreatDoor
open Go.RowKit Qs Qh
variable {b0 w w1 w2 w':World}{a:Nat→Addr}{X:XB}{vs vs':List Value}{mv mv':Value}{m m':M}{N:Int}
structure XLow(b0 w:World)(a:Nat→Addr)(X:XB)(vs:List Value)(mv:Value):Prop where
 errs:ErrsM b0 a
 mod:Mod noF b0 w
 low:∀x,XFoot X vs mv x→b0.heap.size≤x
theorem XLow.E(h:XLow b0 w a X vs mv):ErrsM w a:=h.errs.keep h.mod
theorem XLow.up(h:XLow b0 w a X vs mv)(u:XUp w X vs mv m w' m' vs' mv'):XLow b0 w' a X vs' mv':=
 ⟨h.errs,h.mod.trans u.mod (fun x hx e=>by have:=h.low x e;omega),fun x hx=>(u.foot x hx).elim (h.low x) (fun e=>Nat.le_trans h.mod.size e)⟩
theorem XLow.keep(h:XLow b0 w a X vs mv)(hM:Mod noF w w'):XLow b0 w' a X vs mv:=⟨h.errs,h.mod.trans0 hM,h.low⟩
theorem XLow.P(h:XLow b0 w a X vs mv):PLow b0 w a X.P vs:=⟨h.errs.four,h.mod,fun x hx=>h.low x (.inr (.inr (.inl hx)))⟩
theorem PX.cells(h:PX w X vs mv m N)(hN:N≤1000000000):CellsOk m.cells:=
 ⟨h.om.cells,fun i c hc=>⟨(h.om.times i c hc).1,Int.le_trans (h.om.times i c hc).2 hN⟩,fun i c hc=>(h.om.words i c hc).1⟩
theorem names_ref{n c g:Int}(h:m.names n=some (c,g)):refV n=(c,g,0)∧hereIn m.cells c g=true:=by
 unfold M.names at h;unfold refV
 cases e:refOf n with
 |none=>rw[e]at h;cases h
 |some p=>
  obtain ⟨c',g'⟩:=p;rw[e]at h;simp only at h ⊢
  split at h
  ·cases h;rename_i hh;exact ⟨rfl,hh⟩
  ·cases h
theorem names_not{n:Int}(h:m.names n=none):∃c g z,refV n=(c,g,z)∧(z=0→hereIn m.cells c g=false)∧(z=0∨z=5∨z=2):=by
 unfold M.names at h;unfold refV
 cases e:refOf n with
 |none=>
  refine ⟨0,0,if n=0 then 5 else 2,rfl,fun g=>?_,?_⟩
  ·exfalso;revert g;split <;> omega
  ·split <;> simp
 |some p=>
  obtain ⟨c',g'⟩:=p;rw[e]at h;simp only at h ⊢
  split at h
  ·cases h
  ·rename_i hh;exact ⟨_,_,_,rfl,fun _=>by simpa using hh,.inl rfl⟩
theorem mod_set1{w W:World}{b:Nat}(h:Mod noF w W)(hb:w.heap.size≤b)(i:Nat)(x:Value):Mod noF w (W.setCell ⟨b,i,none⟩ x):=
 h.trans ((Mod.refl (fun y=>y=b) W).setCell (fun _=>rfl) _) fun y hy e=>by omega
theorem pref_hit(H:PX w X vs mv m N)(hN:N≤1000000000)(L:XLow b0 w a X vs mv){n c g:Int}(hw:isWord n=true)(hn:m.names n=some (c,g)) :
  Calls Tryz.prog 87 #[.pointer (some ⟨X.bX,0,none⟩),.int .i64 n] w fun e w'=>e=.returned (.tuple #[.agg #[.int .i64 c,.int .i64 g],.bool true])∧Mod noF w w':=by
 obtain ⟨hr,hh⟩:=names_ref hn;obtain ⟨wn0,wn1⟩:=of_isWord hw
 have hload:loadE m.cells c g 0=(getWord m.cells c.toNat 0,0):=by unfold loadE;rw[if_pos hh,if_pos (by omega)];rfl
 have HH:=Lib.hid H;have HL:=Lib.hid L;have Hr:=Lib.hid hr;have Hload:=Lib.hid hload;have hsz:=lt_of_block H.p.top;clear H L hn hr hh hload
 go_enter Tryz.func87,Tryz.ntmps87
 go_wp2_with fail
 refine (arenaRef_any n _ a (HL.out.E.keep ((Mod.refl noF w).alloc _)) (by omega) (by omega)).mono ?_;rintro e w1 ⟨rfl,hm1⟩;rw[Hr.out];have he0:errOf a 0=.nilIface:=rfl;simp only[he0];have hm:Mod noF w w1:=((Mod.refl noF w).alloc _).trans0 hm1;obtain ⟨t0,t1,t2,t3,t4,t5⟩:=(HH.out.keep0 hm).p.top_at
 have hlt:w.heap.size<w1.heap.size:=by have:=hm1.size;simp at this;omega
 have hres:=hm1.heap (heap_alloc_new w (.cells #[.int .i64 0,.int .i64 0] 101)) (fun e=>e);have Hm:=Lib.hid hm;have Hres:=Lib.hid hres;clear hm hm1 he0 t1 t2 t3 t4 t5 hres;obtain ⟨wn,hwn⟩:∃wn,wn=w1.alloc (.cells #[.int .i64 c,.int .i64 g] 101):=⟨_,rfl⟩
 have hmn:Mod noF w1 wn:=by rw[hwn];exact (Mod.refl noF w1).alloc _
 have r0:wn.cell? ⟨w1.heap.size,0,none⟩=some (.int .i64 c):=by rw[hwn];simp
 have r1:wn.cell? ⟨w1.heap.size,1,none⟩=some (.int .i64 g):=by rw[hwn];simp
 have hxl:w1.heap.size<wn.heap.size:=by rw[hwn];simp
 have hS:∀W,Mod noF wn.drew W→Mod noF wn.drew W∧W.cell? ⟨X.bX,0,none⟩=some (.pointer (some ⟨X.P.bM,0,none⟩))∧W.cell? ⟨w1.heap.size,0,none⟩=some (.int .i64 c)∧W.cell? ⟨w1.heap.size,1,none⟩=some (.int .i64 g):=fun W hW=>⟨hW,hW.cell (hmn.cell t0 (fun e=>e)) (fun e=>e),hW.cell r0 (fun e=>e),hW.cell r1 (fun e=>e)⟩
 have hcall:∀W,Mod noF wn.drew W→Calls Tryz.prog 62 #[.pointer (some ⟨X.P.bM,0,none⟩),.agg #[.int .i64 c,.int .i64 g],.int .i64 0] W fun e w'=>e=.returned (.tuple #[.int .i64 (getWord m.cells c.toNat 0),.nilIface])∧Mod noF W w'∧Mod noF wn.drew w':=fun W hW=>by
  have hq:=Hm.out.trans0 (hmn.trans0 (((Mod.refl noF wn).drew).trans0 hW));have:=ppeek_any (HH.out.keep0 hq).p.mem (HL.out.keep hq).E.four (HH.out.cells hN) c g 0;rw[Hload.out]at this;exact this.mono fun e w' h=>⟨h.1,h.2,hW.trans0 h.2⟩
 have HS:=Lib.hid hS;have Hcall:=Lib.hid hcall;have Hmn:=Lib.hid hmn;clear hS hcall hmn;go_wp2;rw[←hwn];clear hwn
 go_region_held3 (fun W=>Mod noF wn.drew W∧W.cell? ⟨X.bX,0,none⟩=some (.pointer (some ⟨X.P.bM,0,none⟩))∧W.cell? ⟨w1.heap.size,0,none⟩=some (.int .i64 c)∧W.cell? ⟨w1.heap.size,1,none⟩=some (.int .i64 g)) ((refine HS.out _ ?_;first|assumption|exact Mod.refl _ _)) (first|(go_at_call 62;go_split_ands;refine (Hcall.out _ ?_).mono ?_;assumption;rintro e w5 ⟨rfl,hm0,hm5⟩))
 have hq5:=Hm.out.trans0 (Hmn.out.trans0 (((Mod.refl noF wn).drew).trans0 hm5));have s0:=((Mod.refl noF wn).drew.trans0 hm5).cell r0 (fun e=>e);have s1:=((Mod.refl noF wn).drew.trans0 hm5).cell r1 (fun e=>e);have hres5:=(Hmn.out.trans0 (((Mod.refl noF wn).drew).trans0 hm5)).heap Hres.out (fun e=>e)
 have q0:=cell_of_heap hres5 0;have qf0:=free_of_heap hres5 0;have qf1:=free_of_heap hres5 1;have Hq5:=Lib.hid hq5;have Hres5:=Lib.hid hres5
 have hl5:w1.heap.size<w5.heap.size:=by have:=hm5.size;simp at this;omega
 have hfc:=fun W (hW:Mod noF w W)=>pfault_nil (HH.out.keep0 hW).p;have Hfc:=Lib.hid hfc;clear hm5 hm0 hq5 hres5 hfc;go_wp2;replace q0:w5.cell? ⟨w.heap.size,0,none⟩=some (.int .i64 0):=q0;have q1:w5.cell? ⟨w.heap.size,1,none⟩=some (.int .i64 0):=cell_of_heap Hres5.out 1
 have hrl:=lt_of_block Hres5.out;have z0:(w5.setCell ⟨w.heap.size,0,none⟩ (.int .i64 c)).cell? ⟨w.heap.size,0,none⟩=some (.int .i64 c):=World.cell?_setCell_same _ _ _ q0
 have z1:((w5.setCell ⟨w.heap.size,0,none⟩ (.int .i64 c)).setCell ⟨w.heap.size,1,none⟩ (.int .i64 g)).cell? ⟨w.heap.size,1,none⟩=some (.int .i64 g):=
  World.cell?_setCell_same (u:=.int .i64 0) _ _ _ (by rw[World.cell?_setCell_other (h:=fun e=>by have:=congrArg Addr.off e;simp at this)];exact q1)
 have Hz:=Lib.hid (And.intro z0 z1);clear z0 z1
 go_region_with (go_at_call 59;refine (Hfc.out _ (by repeat (first|exact Hq5.out|refine Mod.drew ?_|refine Mod.drewN ?_ _|refine mod_set1 ?_ (Nat.le_refl _) _ _))).mono ?_;rintro e w6 ⟨rfl,rfl⟩)
 all_goals
  go_wp2
  refine bodyPost_ret (v:=.tuple #[.agg #[.int .i64 c,.int .i64 g],.bool true]) (by obtain ⟨z0,z1⟩:=Hz.out;simp[results,Tryz.results87,go_sem,z0,z1]) rfl ⟨rfl,by repeat (first|exact Hq5.out|refine Mod.drew ?_|refine Mod.drewN ?_ _|refine mod_set1 ?_ (Nat.le_refl _) _ _)⟩
theorem pref_err(H:PX w X vs mv m N)(hN:N≤1000000000)(L:XLow b0 w a X vs mv){n c g z:Int}(hw:isWord n=true)(hr:refV n=(c,g,z))(hz:z=5∨z=2) :
  Calls Tryz.prog 87 #[.pointer (some ⟨X.bX,0,none⟩),.int .i64 n] w fun e w'=>e=.returned (.tuple #[.agg #[.int .i64 c,.int .i64 g],.bool false])∧XUp w X vs mv m w' m.fault vs mv:=by
 obtain ⟨wn0,wn1⟩:=of_isWord hw
 obtain ⟨vi,hvi⟩:∃i,errOf a z=errV a i:=by rcases hz with rfl|rfl <;> exact ⟨_,rfl⟩
 have hf0:=H.ot.f0;have HH:=Lib.hid H;have HL:=Lib.hid L;have Hr:=Lib.hid hr;have hsz:=lt_of_block H.p.top;clear H L hr
 go_enter Tryz.func87,Tryz.ntmps87
 go_wp2_with fail
 refine (arenaRef_any n _ a (HL.out.E.keep ((Mod.refl noF w).alloc _)) (by omega) (by omega)).mono ?_;rintro e w1 ⟨rfl,hm1⟩;rw[Hr.out];rw[hvi];have hm:Mod noF w w1:=((Mod.refl noF w).alloc _).trans0 hm1;obtain ⟨t0,t1,t2,t3,t4,t5⟩:=(HH.out.keep0 hm).p.top_at
 have hlt:w.heap.size<w1.heap.size:=by have:=hm1.size;simp at this;omega
 have hres:=hm1.heap (heap_alloc_new w (.cells #[.int .i64 0,.int .i64 0] 101)) (fun e=>e);have Hm:=Lib.hid hm;have Hres:=Lib.hid hres;clear hm hm1 t0 t1 t2 t3 t4 t5 hres;obtain ⟨wn,hwn⟩:∃wn,wn=w1.alloc (.cells #[.int .i64 c,.int .i64 g] 101):=⟨_,rfl⟩
 have hmn:Mod noF w1 wn:=by rw[hwn];exact (Mod.refl noF w1).alloc _
 have r0:wn.cell? ⟨w1.heap.size,0,none⟩=some (.int .i64 c):=by rw[hwn];simp
 have r1:wn.cell? ⟨w1.heap.size,1,none⟩=some (.int .i64 g):=by rw[hwn];simp
 have hxl:w1.heap.size<wn.heap.size:=by rw[hwn];simp
 have Hmn:=Lib.hid hmn;have hq5:=Hm.out.trans0 hmn;have s0:=r0;have s1:=r1;have hres5:=Hmn.out.heap Hres.out (fun e=>e);have q0:=cell_of_heap hres5 0;have qf0:=free_of_heap hres5 0;have qf1:=free_of_heap hres5 1;have Hq5:=Lib.hid hq5;have Hres5:=Lib.hid hres5
 have hfc:=fun W (hW:Mod noF w W)=>pfault_some (HH.out.keep0 hW).p hf0.1 (by omega) 241 (.pointer (some (a vi)));have Hfc:=Lib.hid hfc
 have n1:¬X.bX=w.heap.size:=by omega
 have n2:¬w.heap.size=X.bX:=by omega
 have n3:¬X.bX=w1.heap.size:=by omega
 have n4:¬w1.heap.size=X.bX:=by omega
 clear hq5 hres5 hfc hmn;unfold errV;go_wp2;rw[←hwn];clear hwn;replace q0:wn.cell? ⟨w.heap.size,0,none⟩=some (.int .i64 0):=q0;have q1:wn.cell? ⟨w.heap.size,1,none⟩=some (.int .i64 0):=cell_of_heap Hres5.out 1;have hrl:=lt_of_block Hres5.out
 obtain ⟨fv,hfv⟩:∃fv:Value,fv=.int .i64 (m.faults+1):=⟨_,rfl⟩;have hM3:Mod (fun x=>x=X.bX) wn (wn.setCell ⟨X.bX,3,none⟩ fv):=(Mod.refl (fun x=>x=X.bX) wn).setCell (fun _=>rfl) _;have y0:=hM3.cell q0 (fun e=>n2 e);have y1:=hM3.cell q1 (fun e=>n2 e)
 have z0:((wn.setCell ⟨X.bX,3,none⟩ fv).setCell ⟨w.heap.size,0,none⟩ (.int .i64 c)).cell? ⟨w.heap.size,0,none⟩=some (.int .i64 c):=World.cell?_setCell_same _ _ _ y0
 have z1:(((wn.setCell ⟨X.bX,3,none⟩ fv).setCell ⟨w.heap.size,0,none⟩ (.int .i64 c)).setCell ⟨w.heap.size,1,none⟩ (.int .i64 g)).cell? ⟨w.heap.size,1,none⟩=some (.int .i64 g):=
  World.cell?_setCell_same (u:=.int .i64 0) _ _ _ (by rw[World.cell?_setCell_other (h:=fun e=>by have:=congrArg Addr.off e;simp at this)];exact y1)
 rw[hfv]at z0 z1;have Hz:=Lib.hid (And.intro z0 z1)
 have hup:XUp w X vs mv m ((((wn.setCell ⟨X.bX,3,none⟩ (.int .i64 (m.faults+1))).setCell ⟨w.heap.size,0,none⟩ (.int .i64 c)).setCell ⟨w.heap.size,1,none⟩ (.int .i64 g)).drew) m.fault vs mv:=
  (XUp.aside (m1:=m.fault) (g:=w.heap.size) HH.out.p (fun t k1 h=>⟨k1,h⟩) ((XUp.quiet HH.out.p Hq5.out).trans ((HH.out.keep0 Hq5.out).p.setFaults (m.faults+1))) (Nat.le_refl _) (((Mod.refl (fun x=>x=w.heap.size) (wn.setCell ⟨X.bX,3,none⟩ (.int .i64 (m.faults+1)))).setCell (p:=⟨w.heap.size,0,none⟩) (fun _=>rfl) (.int .i64 c)).setCell (p:=⟨w.heap.size,1,none⟩) (fun _=>rfl) (.int .i64 g))).then0 ((Mod.refl noF _).drew)
 have Hup:=Lib.hid hup;clear z0 z1 y0 y1 hM3 hfv hup
 go_region_with (go_at_call 59;refine (Hfc.out _ (by repeat (first|exact Hq5.out|refine Mod.drew ?_|refine Mod.drewN ?_ _|refine mod_set1 ?_ (Nat.le_refl _) _ _))).mono ?_;rintro e w6 ⟨rfl,rfl⟩)
 all_goals
  go_wp2;refine bodyPost_ret (v:=.tuple #[.agg #[.int .i64 c,.int .i64 g],.bool false]) (by obtain ⟨z0,z1⟩:=Hz.out;simp[results,Tryz.results87,go_sem,z0,z1]) rfl ⟨rfl,Hup.out⟩
theorem pref_gone(H:PX w X vs mv m N)(hN:N≤1000000000)(L:XLow b0 w a X vs mv){n c g:Int}(hw:isWord n=true)(hr:refV n=(c,g,0))(hh:hereIn m.cells c g=false) :
  Calls Tryz.prog 87 #[.pointer (some ⟨X.bX,0,none⟩),.int .i64 n] w fun e w'=>e=.returned (.tuple #[.agg #[.int .i64 c,.int .i64 g],.bool false])∧XUp w X vs mv m w' m.fault vs mv:=by
 obtain ⟨wn0,wn1⟩:=of_isWord hw
 have hload:loadE m.cells c g 0=(0,7):=by unfold loadE;rw[if_neg (by rw[hh];simp)]
 have Hfl:=Lib.hid H.ot.f0;have HH:=Lib.hid H;have HL:=Lib.hid L;have Hr:=Lib.hid hr;have Hload:=Lib.hid hload;have hsz:=lt_of_block H.p.top;clear H L hr hh hload
 go_enter Tryz.func87,Tryz.ntmps87
 go_wp2_with fail
 refine (arenaRef_any n _ a (HL.out.E.keep ((Mod.refl noF w).alloc _)) (by omega) (by omega)).mono ?_;rintro e w1 ⟨rfl,hm1⟩;rw[Hr.out];have he0:errOf a 0=.nilIface:=rfl;simp only[he0];have hm:Mod noF w w1:=((Mod.refl noF w).alloc _).trans0 hm1;obtain ⟨t0,t1,t2,t3,t4,t5⟩:=(HH.out.keep0 hm).p.top_at
 have hlt:w.heap.size<w1.heap.size:=by have:=hm1.size;simp at this;omega
 have hres:=hm1.heap (heap_alloc_new w (.cells #[.int .i64 0,.int .i64 0] 101)) (fun e=>e);have Hm:=Lib.hid hm;have Hres:=Lib.hid hres;clear hm hm1 he0 t1 t2 t3 t4 t5 hres;obtain ⟨wn,hwn⟩:∃wn,wn=w1.alloc (.cells #[.int .i64 c,.int .i64 g] 101):=⟨_,rfl⟩
 have hmn:Mod noF w1 wn:=by rw[hwn];exact (Mod.refl noF w1).alloc _
 have r0:wn.cell? ⟨w1.heap.size,0,none⟩=some (.int .i64 c):=by rw[hwn];simp
 have r1:wn.cell? ⟨w1.heap.size,1,none⟩=some (.int .i64 g):=by rw[hwn];simp
 have hxl:w1.heap.size<wn.heap.size:=by rw[hwn];simp
 have hS:∀W,Mod noF wn.drew W→Mod noF wn.drew W∧W.cell? ⟨X.bX,0,none⟩=some (.pointer (some ⟨X.P.bM,0,none⟩))∧W.cell? ⟨w1.heap.size,0,none⟩=some (.int .i64 c)∧W.cell? ⟨w1.heap.size,1,none⟩=some (.int .i64 g):=fun W hW=>⟨hW,hW.cell (hmn.cell t0 (fun e=>e)) (fun e=>e),hW.cell r0 (fun e=>e),hW.cell r1 (fun e=>e)⟩
 have hcall:∀W,Mod noF wn.drew W→Calls Tryz.prog 62 #[.pointer (some ⟨X.P.bM,0,none⟩),.agg #[.int .i64 c,.int .i64 g],.int .i64 0] W fun e w'=>e=.returned (.tuple #[.int .i64 0,.iface 241 (.pointer (some (a 6)))])∧Mod noF W w'∧Mod noF wn.drew w':=fun W hW=>by
  have hq:=Hm.out.trans0 (hmn.trans0 (((Mod.refl noF wn).drew).trans0 hW));have:=ppeek_any (HH.out.keep0 hq).p.mem (HL.out.keep hq).E.four (HH.out.cells hN) c g 0;rw[Hload.out]at this;exact this.mono fun e w' h=>⟨h.1,h.2,hW.trans0 h.2⟩
 have HS:=Lib.hid hS;have Hcall:=Lib.hid hcall;have Hmn:=Lib.hid hmn;clear hS hcall hmn;go_wp2;rw[←hwn];clear hwn
 go_region_held3 (fun W=>Mod noF wn.drew W∧W.cell? ⟨X.bX,0,none⟩=some (.pointer (some ⟨X.P.bM,0,none⟩))∧W.cell? ⟨w1.heap.size,0,none⟩=some (.int .i64 c)∧W.cell? ⟨w1.heap.size,1,none⟩=some (.int .i64 g)) ((refine HS.out _ ?_;first|assumption|exact Mod.refl _ _)) (first|(go_at_call 62;go_split_ands;refine (Hcall.out _ ?_).mono ?_;assumption;rintro e w5 ⟨rfl,hm0,hm5⟩))
 have hq5:=Hm.out.trans0 (Hmn.out.trans0 (((Mod.refl noF wn).drew).trans0 hm5));have s0:=((Mod.refl noF wn).drew.trans0 hm5).cell r0 (fun e=>e);have s1:=((Mod.refl noF wn).drew.trans0 hm5).cell r1 (fun e=>e);have hres5:=(Hmn.out.trans0 (((Mod.refl noF wn).drew).trans0 hm5)).heap Hres.out (fun e=>e)
 have q0:=cell_of_heap hres5 0;have qf0:=free_of_heap hres5 0;have qf1:=free_of_heap hres5 1;have Hq5:=Lib.hid hq5;have Hres5:=Lib.hid hres5
 have hl5:w1.heap.size<w5.heap.size:=by have:=hm5.size;simp at this;omega
 have hfc:=fun W (hW:Mod noF w W)=>pfault_some (HH.out.keep0 hW).p Hfl.out.1 (by have:=Hfl.out.2;omega) 241 (.pointer (some (a 6)));have Hfc:=Lib.hid hfc
 have n1:¬X.bX=w.heap.size:=by omega
 have n2:¬w.heap.size=X.bX:=by omega
 have n3:¬X.bX=w1.heap.size:=by omega
 have n4:¬w1.heap.size=X.bX:=by omega
 clear hm5 hm0 hq5 hres5 hfc;go_wp2;replace q0:w5.cell? ⟨w.heap.size,0,none⟩=some (.int .i64 0):=q0;have q1:w5.cell? ⟨w.heap.size,1,none⟩=some (.int .i64 0):=cell_of_heap Hres5.out 1;have hrl:=lt_of_block Hres5.out;obtain ⟨fv,hfv⟩:∃fv:Value,fv=.int .i64 (m.faults+1):=⟨_,rfl⟩
 have hM3:Mod (fun x=>x=X.bX) w5 (w5.setCell ⟨X.bX,3,none⟩ fv):=(Mod.refl (fun x=>x=X.bX) w5).setCell (fun _=>rfl) _;have y0:=hM3.cell q0 (fun e=>n2 e);have y1:=hM3.cell q1 (fun e=>n2 e)
 have z0:((w5.setCell ⟨X.bX,3,none⟩ fv).setCell ⟨w.heap.size,0,none⟩ (.int .i64 c)).cell? ⟨w.heap.size,0,none⟩=some (.int .i64 c):=World.cell?_setCell_same _ _ _ y0
 have z1:(((w5.setCell ⟨X.bX,3,none⟩ fv).setCell ⟨w.heap.size,0,none⟩ (.int .i64 c)).setCell ⟨w.heap.size,1,none⟩ (.int .i64 g)).cell? ⟨w.heap.size,1,none⟩=some (.int .i64 g):=
  World.cell?_setCell_same (u:=.int .i64 0) _ _ _ (by rw[World.cell?_setCell_other (h:=fun e=>by have:=congrArg Addr.off e;simp at this)];exact y1)
 rw[hfv]at z0 z1;have Hz:=Lib.hid (And.intro z0 z1)
 have hup:XUp w X vs mv m ((((w5.setCell ⟨X.bX,3,none⟩ (.int .i64 (m.faults+1))).setCell ⟨w.heap.size,0,none⟩ (.int .i64 c)).setCell ⟨w.heap.size,1,none⟩ (.int .i64 g)).drew) m.fault vs mv:=
  (XUp.aside (m1:=m.fault) (g:=w.heap.size) HH.out.p (fun t k1 h=>⟨k1,h⟩) ((XUp.quiet HH.out.p Hq5.out).trans ((HH.out.keep0 Hq5.out).p.setFaults (m.faults+1))) (Nat.le_refl _) (((Mod.refl (fun x=>x=w.heap.size) (w5.setCell ⟨X.bX,3,none⟩ (.int .i64 (m.faults+1)))).setCell (p:=⟨w.heap.size,0,none⟩) (fun _=>rfl) (.int .i64 c)).setCell (p:=⟨w.heap.size,1,none⟩) (fun _=>rfl) (.int .i64 g))).then0 ((Mod.refl noF _).drew)
 have Hup:=Lib.hid hup;clear z0 z1 y0 y1 hM3 hfv hup
 go_region_with (go_at_call 59;refine (Hfc.out _ (by repeat (first|exact Hq5.out|refine Mod.drew ?_|refine Mod.drewN ?_ _|refine mod_set1 ?_ (Nat.le_refl _) _ _))).mono ?_;rintro e w6 ⟨rfl,rfl⟩)
 all_goals
  go_wp2;refine bodyPost_ret (v:=.tuple #[.agg #[.int .i64 c,.int .i64 g],.bool false]) (by obtain ⟨z0,z1⟩:=Hz.out;simp[results,Tryz.results87,go_sem,z0,z1]) rfl ⟨rfl,Hup.out⟩
theorem pref_miss(H:PX w X vs mv m N)(hN:N≤1000000000)(L:XLow b0 w a X vs mv){n:Int}(hw:isWord n=true)(hn:m.names n=none) :
  Calls Tryz.prog 87 #[.pointer (some ⟨X.bX,0,none⟩),.int .i64 n] w fun e w'=>∃c g,e=.returned (.tuple #[.agg #[.int .i64 c,.int .i64 g],.bool false])∧XUp w X vs mv m w' m.fault vs mv:=by
 obtain ⟨c,g,z,hr,h0,hz⟩:=names_not hn
 rcases hz with rfl|hz
 ·exact (pref_gone H hN L hw hr (h0 rfl)).mono fun e w' h=>⟨c,g,h⟩
 ·exact (pref_err H hN L hw hr hz).mono fun e w' h=>⟨c,g,h⟩
end Go.Proofs.YtciaficoeajeaaaGreatDoor
