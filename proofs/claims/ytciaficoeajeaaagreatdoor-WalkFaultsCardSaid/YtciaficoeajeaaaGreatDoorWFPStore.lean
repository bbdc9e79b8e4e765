/- package memory: Store. -/
import Derived.Test.YtciaficoeajeaaaGreatDoorWFm7
import Derived.Deep.RegionHeld3
import Derived.Deep.RegionLaw
set_option linter.unusedVariables false
set_option linter.unusedSimpArgs false
set_option linter.unusedSectionVars false
set_option maxHeartbeats 4000000
namespace Go.Proofs.YtciaficoeajeaaaGreatDoor
open Go.RowKit Qs Qh
variable {w:World}{B:PB}{l:List Cell}{ws:List (List Wt)}{vs:List Value}{a:Nat→Addr}
theorem loadE_cases(l:List Cell)(c r W_:Int):(loadE l c r W_=(getWord l c.toNat W_.toNat,0))∨(loadE l c r W_=(0,2))∨(loadE l c r W_=(0,7)):=by
 unfold loadE
 cases hereIn l c r with
 |false=>exact .inr (.inr rfl)
 |true=>
  by_cases h:0≤W_∧W_<4
  ·left;simp[h]
  ·right;left;simp[h]
def pstE(l:List Cell)(q:List Wt)(c r W_ V:Int):Int:=if (loadE l c r W_).2=0 then (if isWord V then (if 8≤q.length then 6 else 0)else 2)else (loadE l c r W_).2
theorem pwaitInfo:(Tryz.prog.info? 182).map (fun i=>(i.zero,i.size,i.bytes))=some (some (.agg #[.int .i64 0,.int .i64 0,.int .i64 0,.int .i64 0]),4,32):=by kernel_rfl
theorem pstore_err2(h:PMV w B l ws vs)(E:Errs4 w a)(hn:l.length≤64)(ht:timesOk l){t:Nat}{q:List Wt}(hq:ws[t]?=some q)(c r W_ V:Int)(he:loadE l c r W_=(0,2)) :
  Calls Tryz.prog 90 #[.pointer (some ⟨B.bM,0,none⟩),.int .i64 t,.agg #[.int .i64 c,.int .i64 r],.int .i64 W_,.int .i64 V] w fun e w'=>e=.returned (errOf' a 2)∧PUp w B vs w' l ws vs:=by
 simp only[errOf',errV,show ((2:Int)=0)=False by decide,if_false,show (2:Int).toNat - 1=1 from rfl];have htl:=(List.getElem?_eq_some_iff.1 hq).1;have hq0:=(Mod.refl noF w).alloc (refBox c r);have h2:=h.keep0 hq0;have hu:=PUp.quiet h hq0;have hbx:=heap_alloc_new w (refBox c r);have E2:=E.keep hq0
 obtain ⟨wz,hwz⟩:∃wz,wz=w.alloc (refBox c r):=⟨_,rfl⟩;rw[←hwz]at h2 hu hbx E2
 have hS:∀W,Mod noF wz.drew W→(Mod noF wz.drew W∧W.cell? ⟨B.bM,0,none⟩=some (.pointer (some ⟨B.bA,0,none⟩))∧W.cell? ⟨w.heap.size,0,none⟩=some (.int .i64 c)∧W.cell? ⟨w.heap.size,1,none⟩=some (.int .i64 r)):=by
  intro W hW;have hz:=(Mod.refl noF wz).drew.trans0 hW;have hx:=hz.heap hbx (fun e=>e);exact ⟨hW,(h2.keep0 hz).ptr,(cell_of_heap hx 0).trans rfl,(cell_of_heap hx 1).trans rfl⟩
 have hcall:∀W,Mod noF wz.drew W→Calls Tryz.prog 104 #[.pointer (some ⟨B.bA,0,none⟩),.agg #[.int .i64 c,.int .i64 r],.int .i64 W_] W fun e w'=>e=.returned (.tuple #[.int .i64 (loadE l c r W_).1,errOf' a (loadE l c r W_).2])∧Mod noF wz.drew W∧Mod noF wz.drew w':=by
  intro W hW;have hz:=(Mod.refl noF wz).drew.trans0 hW;exact (aload_any (h2.keep0 hz).arena (E2.keep hz) hn ht c r W_).mono fun e w' h=>⟨h.1,hW,hW.trans0 h.2⟩
 rw[he]at hcall;simp only[errOf',errV,show ((2:Int)=0)=False by decide,if_false,show (2:Int).toNat - 1=1 from rfl]at hcall;obtain ⟨-,z0,z1,z2⟩:=hS wz.drew (Mod.refl _ _);have zb:=h2.lt (x:=B.bM) (.inl rfl);have zx:=lt_of_block hbx;have HS:=Lib.hid hS;have Hcall:=Lib.hid hcall;have H:=Lib.hid h2
 have Hu:=Lib.hid hu;have HE:=Lib.hid E2;have Hq:=Lib.hid hq;have Hbx:=Lib.hid hbx;have Hgt:=Lib.hid (h.lt (x:=B.gA) (.inr (.inr (.inl rfl))));clear hcall h h2 hu hq0 E E2 ht hq he hbx hS
 go_enter Tryz.func90,Tryz.ntmps90
 go_wp2_with fail
 rw[←hwz];refine (pthread_ok H.out t htl).mono ?_;rintro e w' ⟨rfl,rfl⟩;clear hwz;go_wp2
 go_region_held3 (fun W=>Mod noF wz.drew W∧W.cell? ⟨B.bM,0,none⟩=some (.pointer (some ⟨B.bA,0,none⟩))∧W.cell? ⟨w.heap.size,0,none⟩=some (.int .i64 c)∧W.cell? ⟨w.heap.size,1,none⟩=some (.int .i64 r)) ((refine HS.out _ ?_;first|assumption|exact Mod.refl _ _)) (first|(go_at_call 104;go_split_ands;refine (Hcall.out _ ?_).mono ?_;assumption;rintro e w1 ⟨rfl,hm0,hm1⟩))
 have hm1:=(Mod.refl noF wz).drew.trans0 hm1;have Hu1:=Lib.hid (Hu.out.then0 hm1);clear hm1 Hcall;go_wp2;go_ret;exact ⟨rfl,Hu1.out⟩
theorem pstore_err7(h:PMV w B l ws vs)(E:Errs4 w a)(hn:l.length≤64)(ht:timesOk l){t:Nat}{q:List Wt}(hq:ws[t]?=some q)(c r W_ V:Int)(he:loadE l c r W_=(0,7)) :
  Calls Tryz.prog 90 #[.pointer (some ⟨B.bM,0,none⟩),.int .i64 t,.agg #[.int .i64 c,.int .i64 r],.int .i64 W_,.int .i64 V] w fun e w'=>e=.returned (errOf' a 7)∧PUp w B vs w' l ws vs:=by
 simp only[errOf',errV,show ((7:Int)=0)=False by decide,if_false,show (7:Int).toNat - 1=6 from rfl];have htl:=(List.getElem?_eq_some_iff.1 hq).1;have hq0:=(Mod.refl noF w).alloc (refBox c r);have h2:=h.keep0 hq0;have hu:=PUp.quiet h hq0;have hbx:=heap_alloc_new w (refBox c r);have E2:=E.keep hq0
 obtain ⟨wz,hwz⟩:∃wz,wz=w.alloc (refBox c r):=⟨_,rfl⟩;rw[←hwz]at h2 hu hbx E2
 have hS:∀W,Mod noF wz.drew W→(Mod noF wz.drew W∧W.cell? ⟨B.bM,0,none⟩=some (.pointer (some ⟨B.bA,0,none⟩))∧W.cell? ⟨w.heap.size,0,none⟩=some (.int .i64 c)∧W.cell? ⟨w.heap.size,1,none⟩=some (.int .i64 r)):=by
  intro W hW;have hz:=(Mod.refl noF wz).drew.trans0 hW;have hx:=hz.heap hbx (fun e=>e);exact ⟨hW,(h2.keep0 hz).ptr,(cell_of_heap hx 0).trans rfl,(cell_of_heap hx 1).trans rfl⟩
 have hcall:∀W,Mod noF wz.drew W→Calls Tryz.prog 104 #[.pointer (some ⟨B.bA,0,none⟩),.agg #[.int .i64 c,.int .i64 r],.int .i64 W_] W fun e w'=>e=.returned (.tuple #[.int .i64 (loadE l c r W_).1,errOf' a (loadE l c r W_).2])∧Mod noF wz.drew W∧Mod noF wz.drew w':=by
  intro W hW;have hz:=(Mod.refl noF wz).drew.trans0 hW;exact (aload_any (h2.keep0 hz).arena (E2.keep hz) hn ht c r W_).mono fun e w' h=>⟨h.1,hW,hW.trans0 h.2⟩
 rw[he]at hcall;simp only[errOf',errV,show ((7:Int)=0)=False by decide,if_false,show (7:Int).toNat - 1=6 from rfl]at hcall;obtain ⟨-,z0,z1,z2⟩:=hS wz.drew (Mod.refl _ _);have zb:=h2.lt (x:=B.bM) (.inl rfl);have zx:=lt_of_block hbx;have HS:=Lib.hid hS;have Hcall:=Lib.hid hcall;have H:=Lib.hid h2
 have Hu:=Lib.hid hu;have HE:=Lib.hid E2;have Hq:=Lib.hid hq;have Hbx:=Lib.hid hbx;have Hgt:=Lib.hid (h.lt (x:=B.gA) (.inr (.inr (.inl rfl))));clear hcall h h2 hu hq0 E E2 ht hq he hbx hS
 go_enter Tryz.func90,Tryz.ntmps90
 go_wp2_with fail
 rw[←hwz];refine (pthread_ok H.out t htl).mono ?_;rintro e w' ⟨rfl,rfl⟩;clear hwz;go_wp2
 go_region_held3 (fun W=>Mod noF wz.drew W∧W.cell? ⟨B.bM,0,none⟩=some (.pointer (some ⟨B.bA,0,none⟩))∧W.cell? ⟨w.heap.size,0,none⟩=some (.int .i64 c)∧W.cell? ⟨w.heap.size,1,none⟩=some (.int .i64 r)) ((refine HS.out _ ?_;first|assumption|exact Mod.refl _ _)) (first|(go_at_call 104;go_split_ands;refine (Hcall.out _ ?_).mono ?_;assumption;rintro e w1 ⟨rfl,hm0,hm1⟩))
 have hm1:=(Mod.refl noF wz).drew.trans0 hm1;have Hu1:=Lib.hid (Hu.out.then0 hm1);clear hm1 Hcall;go_wp2;go_ret;exact ⟨rfl,Hu1.out⟩
theorem pstore_bound(h:PMV w B l ws vs)(E:Errs4 w a)(hn:l.length≤64)(ht:timesOk l)(hn6:ws.length≤6){t:Nat}{q:List Wt}(hq:ws[t]?=some q)(hql:q.length≤8)(c r W_ V x:Int)(he:loadE l c r W_=(x,0))(hv:isWord V=false) :
  Calls Tryz.prog 90 #[.pointer (some ⟨B.bM,0,none⟩),.int .i64 t,.agg #[.int .i64 c,.int .i64 r],.int .i64 W_,.int .i64 V] w fun e w'=>e=.returned (errOf' a 2)∧PUp w B vs w' l ws vs:=by
 simp only[errOf',errV,show ((2:Int)=0)=False by simp,if_true,if_false,show (2:Int).toNat - 1=1 from rfl];have Hv:=Lib.hid hv;clear hv;have htl:=(List.getElem?_eq_some_iff.1 hq).1;have hq0:=(Mod.refl noF w).alloc (refBox c r);have h2:=h.keep0 hq0;have hu:=PUp.quiet h hq0
 have hbx:=heap_alloc_new w (refBox c r);have E2:=E.keep hq0;obtain ⟨wz,hwz⟩:∃wz,wz=w.alloc (refBox c r):=⟨_,rfl⟩;rw[←hwz]at h2 hu hbx E2
 have hS:∀W,Mod noF wz.drew W→(Mod noF wz.drew W∧W.cell? ⟨B.bM,0,none⟩=some (.pointer (some ⟨B.bA,0,none⟩))∧W.cell? ⟨w.heap.size,0,none⟩=some (.int .i64 c)∧W.cell? ⟨w.heap.size,1,none⟩=some (.int .i64 r)):=by
  intro W hW;have hz:=(Mod.refl noF wz).drew.trans0 hW;have hx:=hz.heap hbx (fun e=>e);exact ⟨hW,(h2.keep0 hz).ptr,(cell_of_heap hx 0).trans rfl,(cell_of_heap hx 1).trans rfl⟩
 have hcall:∀W,Mod noF wz.drew W→Calls Tryz.prog 104 #[.pointer (some ⟨B.bA,0,none⟩),.agg #[.int .i64 c,.int .i64 r],.int .i64 W_] W fun e w'=>e=.returned (.tuple #[.int .i64 (loadE l c r W_).1,errOf' a (loadE l c r W_).2])∧Mod noF wz.drew W∧Mod noF wz.drew w':=by
  intro W hW;have hz:=(Mod.refl noF wz).drew.trans0 hW;exact (aload_any (h2.keep0 hz).arena (E2.keep hz) hn ht c r W_).mono fun e w' h=>⟨h.1,hW,hW.trans0 h.2⟩
 rw[he]at hcall;simp only[errOf',errV,if_true]at hcall;obtain ⟨-,z0,z1,z2⟩:=hS wz.drew (Mod.refl _ _);have zb:=h2.lt (x:=B.bM) (.inl rfl);have zx:=lt_of_block hbx;have HS:=Lib.hid hS;have Hcall:=Lib.hid hcall;have H:=Lib.hid h2;have Hu:=Lib.hid hu;have HE:=Lib.hid E2;have Hq:=Lib.hid hq
 have Hbx:=Lib.hid hbx;have Hgt:=Lib.hid (h.lt (x:=B.gA) (.inr (.inr (.inl rfl))));clear hcall h h2 hu hq0 E E2 ht hq he hbx hS
 go_enter Tryz.func90,Tryz.ntmps90
 go_wp2_with fail
 rw[←hwz];refine (pthread_ok H.out t htl).mono ?_;rintro e w' ⟨rfl,rfl⟩;clear hwz;go_wp2
 go_region_held3 (fun W=>Mod noF wz.drew W∧W.cell? ⟨B.bM,0,none⟩=some (.pointer (some ⟨B.bA,0,none⟩))∧W.cell? ⟨w.heap.size,0,none⟩=some (.int .i64 c)∧W.cell? ⟨w.heap.size,1,none⟩=some (.int .i64 r)) ((refine HS.out _ ?_;first|assumption|exact Mod.refl _ _)) (first|(go_at_call 104;go_split_ands;refine (Hcall.out _ ?_).mono ?_;assumption;rintro e w1 ⟨rfl,hm0,hm1⟩))
 have hm1:=(Mod.refl noF wz).drew.trans0 hm1;have h1:=H.out.keep0 hm1;have hx1:=hm1.heap Hbx.out (fun e=>e);have r0:w1.cell? ⟨w.heap.size,0,none⟩=some (.int .i64 c):=(cell_of_heap hx1 0).trans rfl;have r1:w1.cell? ⟨w.heap.size,1,none⟩=some (.int .i64 r):=(cell_of_heap hx1 1).trans rfl
 have rb:=lt_of_block hx1;have Hm1:=Lib.hid hm1;have H1:=Lib.hid h1;obtain ⟨kw,p1⟩:=h1.slice;have pb:=h1.lt (x:=B.bM) (.inl rfl);have pw:=h1.lt (x:=B.bW) (.inr (.inr (.inr (.inl rfl))));obtain ⟨v,ra,rc,hvv,rfl,k1,k2,p2,hrow⟩:=h1.rowAt Hq.out
 have pt:(t:Int)<(ws.length:Int):=by omega
 have pf:=h1.rows.elim fun _ e=>free_of_heap e t;have hvar:=(HE.out.keep hm1).v1;have Hvv:=Lib.hid hvv;have Hrow:=Lib.hid hrow;clear hm1 Hcall h1 hx1 hvv hrow
 go_wp2_with fail
 refine (right_any V w1).mono ?_;rintro e w' ⟨rfl,rfl⟩;rw[Hv.out];go_wp2;go_ret;exact ⟨rfl,Hu.out.then0 Hm1.out⟩
theorem pstore_full(h:PMV w B l ws vs)(E:Errs4 w a)(hn:l.length≤64)(ht:timesOk l)(hn6:ws.length≤6){t:Nat}{q:List Wt}(hq:ws[t]?=some q)(hql:q.length≤8)(c r W_ V x:Int)(he:loadE l c r W_=(x,0))(hv:isWord V=true)(h8:8≤q.length) :
  Calls Tryz.prog 90 #[.pointer (some ⟨B.bM,0,none⟩),.int .i64 t,.agg #[.int .i64 c,.int .i64 r],.int .i64 W_,.int .i64 V] w fun e w'=>e=.returned (errOf' a 6)∧PUp w B vs w' l ws vs:=by
 simp only[errOf',errV,show ((6:Int)=0)=False by simp,if_true,if_false,show (6:Int).toNat - 1=5 from rfl];have Hv:=Lib.hid hv;clear hv;have htl:=(List.getElem?_eq_some_iff.1 hq).1;have hq0:=(Mod.refl noF w).alloc (refBox c r);have h2:=h.keep0 hq0;have hu:=PUp.quiet h hq0
 have hbx:=heap_alloc_new w (refBox c r);have E2:=E.keep hq0;obtain ⟨wz,hwz⟩:∃wz,wz=w.alloc (refBox c r):=⟨_,rfl⟩;rw[←hwz]at h2 hu hbx E2
 have hS:∀W,Mod noF wz.drew W→(Mod noF wz.drew W∧W.cell? ⟨B.bM,0,none⟩=some (.pointer (some ⟨B.bA,0,none⟩))∧W.cell? ⟨w.heap.size,0,none⟩=some (.int .i64 c)∧W.cell? ⟨w.heap.size,1,none⟩=some (.int .i64 r)):=by
  intro W hW;have hz:=(Mod.refl noF wz).drew.trans0 hW;have hx:=hz.heap hbx (fun e=>e);exact ⟨hW,(h2.keep0 hz).ptr,(cell_of_heap hx 0).trans rfl,(cell_of_heap hx 1).trans rfl⟩
 have hcall:∀W,Mod noF wz.drew W→Calls Tryz.prog 104 #[.pointer (some ⟨B.bA,0,none⟩),.agg #[.int .i64 c,.int .i64 r],.int .i64 W_] W fun e w'=>e=.returned (.tuple #[.int .i64 (loadE l c r W_).1,errOf' a (loadE l c r W_).2])∧Mod noF wz.drew W∧Mod noF wz.drew w':=by
  intro W hW;have hz:=(Mod.refl noF wz).drew.trans0 hW;exact (aload_any (h2.keep0 hz).arena (E2.keep hz) hn ht c r W_).mono fun e w' h=>⟨h.1,hW,hW.trans0 h.2⟩
 rw[he]at hcall;simp only[errOf',errV,if_true]at hcall;obtain ⟨-,z0,z1,z2⟩:=hS wz.drew (Mod.refl _ _);have zb:=h2.lt (x:=B.bM) (.inl rfl);have zx:=lt_of_block hbx;have HS:=Lib.hid hS;have Hcall:=Lib.hid hcall;have H:=Lib.hid h2;have Hu:=Lib.hid hu;have HE:=Lib.hid E2;have Hq:=Lib.hid hq
 have Hbx:=Lib.hid hbx;have Hgt:=Lib.hid (h.lt (x:=B.gA) (.inr (.inr (.inl rfl))));clear hcall h h2 hu hq0 E E2 ht hq he hbx hS
 go_enter Tryz.func90,Tryz.ntmps90
 go_wp2_with fail
 rw[←hwz];refine (pthread_ok H.out t htl).mono ?_;rintro e w' ⟨rfl,rfl⟩;clear hwz;go_wp2
 go_region_held3 (fun W=>Mod noF wz.drew W∧W.cell? ⟨B.bM,0,none⟩=some (.pointer (some ⟨B.bA,0,none⟩))∧W.cell? ⟨w.heap.size,0,none⟩=some (.int .i64 c)∧W.cell? ⟨w.heap.size,1,none⟩=some (.int .i64 r)) ((refine HS.out _ ?_;first|assumption|exact Mod.refl _ _)) (first|(go_at_call 104;go_split_ands;refine (Hcall.out _ ?_).mono ?_;assumption;rintro e w1 ⟨rfl,hm0,hm1⟩))
 have hm1:=(Mod.refl noF wz).drew.trans0 hm1;have h1:=H.out.keep0 hm1;have hx1:=hm1.heap Hbx.out (fun e=>e);have r0:w1.cell? ⟨w.heap.size,0,none⟩=some (.int .i64 c):=(cell_of_heap hx1 0).trans rfl;have r1:w1.cell? ⟨w.heap.size,1,none⟩=some (.int .i64 r):=(cell_of_heap hx1 1).trans rfl
 have rb:=lt_of_block hx1;have Hm1:=Lib.hid hm1;have H1:=Lib.hid h1;obtain ⟨kw,p1⟩:=h1.slice;have pb:=h1.lt (x:=B.bM) (.inl rfl);have pw:=h1.lt (x:=B.bW) (.inr (.inr (.inr (.inl rfl))));obtain ⟨v,ra,rc,hvv,rfl,k1,k2,p2,hrow⟩:=h1.rowAt Hq.out
 have pt:(t:Int)<(ws.length:Int):=by omega
 have pf:=h1.rows.elim fun _ e=>free_of_heap e t;have hvar:=(HE.out.keep hm1).v5;have Hvv:=Lib.hid hvv;have Hrow:=Lib.hid hrow;clear hm1 Hcall h1 hx1 hvv hrow
 have dl:decide ((8:Int)≤(q.length:Int))=true:=by simp;omega
 go_wp2_with fail
 refine (right_any V w1).mono ?_;rintro e w' ⟨rfl,rfl⟩;rw[Hv.out];go_wp2;go_ret;exact ⟨rfl,Hu.out.then0 Hm1.out⟩
theorem pstore_ok(h:PMV w B l ws vs)(E:Errs4 w a)(hn:l.length≤64)(ht:timesOk l)(hn6:ws.length≤6){t:Nat}{q:List Wt}(hq:ws[t]?=some q)(hql:q.length≤8)(c r W_ V x:Int)(he:loadE l c r W_=(x,0))(hv:isWord V=true)(h8:q.length<8) :
  Calls Tryz.prog 90 #[.pointer (some ⟨B.bM,0,none⟩),.int .i64 t,.agg #[.int .i64 c,.int .i64 r],.int .i64 W_,.int .i64 V] w fun e w'=>e=.returned (errOf' a 0)∧∃vs',PUp w B vs w' l (ws.set t (q++[⟨c,r,W_,V⟩])) vs':=by
 simp only[errOf',errV,show ((0:Int)=0)=True by simp,if_true,if_false,show (0:Int).toNat - 1=0 from rfl];have Hv:=Lib.hid hv;clear hv;have htl:=(List.getElem?_eq_some_iff.1 hq).1;have hq0:=(Mod.refl noF w).alloc (refBox c r);have h2:=h.keep0 hq0;have hu:=PUp.quiet h hq0
 have hbx:=heap_alloc_new w (refBox c r);have E2:=E.keep hq0;obtain ⟨wz,hwz⟩:∃wz,wz=w.alloc (refBox c r):=⟨_,rfl⟩;rw[←hwz]at h2 hu hbx E2
 have hS:∀W,Mod noF wz.drew W→(Mod noF wz.drew W∧W.cell? ⟨B.bM,0,none⟩=some (.pointer (some ⟨B.bA,0,none⟩))∧W.cell? ⟨w.heap.size,0,none⟩=some (.int .i64 c)∧W.cell? ⟨w.heap.size,1,none⟩=some (.int .i64 r)):=by
  intro W hW;have hz:=(Mod.refl noF wz).drew.trans0 hW;have hx:=hz.heap hbx (fun e=>e);exact ⟨hW,(h2.keep0 hz).ptr,(cell_of_heap hx 0).trans rfl,(cell_of_heap hx 1).trans rfl⟩
 have hcall:∀W,Mod noF wz.drew W→Calls Tryz.prog 104 #[.pointer (some ⟨B.bA,0,none⟩),.agg #[.int .i64 c,.int .i64 r],.int .i64 W_] W fun e w'=>e=.returned (.tuple #[.int .i64 (loadE l c r W_).1,errOf' a (loadE l c r W_).2])∧Mod noF wz.drew W∧Mod noF wz.drew w':=by
  intro W hW;have hz:=(Mod.refl noF wz).drew.trans0 hW;exact (aload_any (h2.keep0 hz).arena (E2.keep hz) hn ht c r W_).mono fun e w' h=>⟨h.1,hW,hW.trans0 h.2⟩
 rw[he]at hcall;simp only[errOf',errV,if_true]at hcall;obtain ⟨-,z0,z1,z2⟩:=hS wz.drew (Mod.refl _ _);have zb:=h2.lt (x:=B.bM) (.inl rfl);have zx:=lt_of_block hbx;have HS:=Lib.hid hS;have Hcall:=Lib.hid hcall;have H:=Lib.hid h2;have Hu:=Lib.hid hu;have HE:=Lib.hid E2;have Hq:=Lib.hid hq
 have Hbx:=Lib.hid hbx;have Hgt:=Lib.hid (h.lt (x:=B.gA) (.inr (.inr (.inl rfl))));clear hcall h h2 hu hq0 E E2 ht hq he hbx hS
 go_enter Tryz.func90,Tryz.ntmps90
 go_wp2_with fail
 rw[←hwz];refine (pthread_ok H.out t htl).mono ?_;rintro e w' ⟨rfl,rfl⟩;clear hwz;go_wp2
 go_region_held3 (fun W=>Mod noF wz.drew W∧W.cell? ⟨B.bM,0,none⟩=some (.pointer (some ⟨B.bA,0,none⟩))∧W.cell? ⟨w.heap.size,0,none⟩=some (.int .i64 c)∧W.cell? ⟨w.heap.size,1,none⟩=some (.int .i64 r)) ((refine HS.out _ ?_;first|assumption|exact Mod.refl _ _)) (first|(go_at_call 104;go_split_ands;refine (Hcall.out _ ?_).mono ?_;assumption;rintro e w1 ⟨rfl,hm0,hm1⟩))
 have hm1:=(Mod.refl noF wz).drew.trans0 hm1;have h1:=H.out.keep0 hm1;have hx1:=hm1.heap Hbx.out (fun e=>e);have r0:w1.cell? ⟨w.heap.size,0,none⟩=some (.int .i64 c):=(cell_of_heap hx1 0).trans rfl;have r1:w1.cell? ⟨w.heap.size,1,none⟩=some (.int .i64 r):=(cell_of_heap hx1 1).trans rfl
 have rb:=lt_of_block hx1;have Hm1:=Lib.hid hm1;have H1:=Lib.hid h1;obtain ⟨kw,p1⟩:=h1.slice;have pb:=h1.lt (x:=B.bM) (.inl rfl);have pw:=h1.lt (x:=B.bW) (.inr (.inr (.inr (.inl rfl))));obtain ⟨v,ra,rc,hvv,rfl,k1,k2,p2,hrow⟩:=h1.rowAt Hq.out
 have pt:(t:Int)<(ws.length:Int):=by omega
 have pf:=h1.rows.elim fun _ e=>free_of_heap e t;have hvar:=(HE.out.keep hm1).v5;have Hvv:=Lib.hid hvv;have Hrow:=Lib.hid hrow;clear hm1 Hcall h1 hx1 hvv hrow
 have dl:decide ((8:Int)≤(q.length:Int))=false:=by simp;omega
 go_wp2_with fail
 refine (right_any V w1).mono ?_;rintro e w' ⟨rfl,rfl⟩;rw[Hv.out];obtain ⟨i0,hi,hz0,hz1,hz2⟩:=info_parts pwaitInfo
 have hbnd:q.length+1≤maxLen:=by unfold maxLen;omega
 go_wp2_with fail
 go_region_law (refine step_append_off rfl (.tmp 61) (.tmp 66) 180 rfl 182 i0 (.agg #[.int .i64 0,.int .i64 0,.int .i64 0,.int .i64 0]) 4 32 Tryz.underlying180 hi hz0 hz1 hz2 rfl (by decide) (.slice ra q.length rc) q.length (flat wtVals 0 q) rfl (by exact Hrow.out.keep ((Mod.refl noF w1).alloc _).drew (fun _ _ e=>e)) ⟨w1.heap.size,0,none⟩ 1 1 [.int .i64 c,.int .i64 r,.int .i64 W_,.int .i64 V] rfl rfl (new_cells w1 _ _) (ints_one [c,r,W_,V]) hbnd (by omega) (by omega) ?_;intro v2 w2 hown2 hgr2 hfr2;obtain ⟨xa,xc,rfl,hxa,hxc⟩:=hown2.slice;have hmod2:Mod (fun x=>(Value.slice ra q.length rc).ownBlock=some x) w1 w2:=(((Mod.refl _ w1).alloc _).drew).grown hgr2 (fun k hk _=>hk);obtain ⟨jr,hrw0⟩:=H1.out.rows;obtain ⟨jt,hrm0⟩:=H1.out.top;have htl0:=(List.getElem?_eq_some_iff.1 Hvv.out).1;have hrw:=hmod2.heap hrw0 (fun e=>(H1.out.own _ (List.mem_of_getElem? Hvv.out) _ e).2.2.2 rfl);have hc2:w2.cell? ⟨B.bW,t,none⟩=some (.slice ra q.length rc):=(cell_of_heap hrw t).trans (by simp[List.getElem?_append,htl0,(List.getElem?_eq_some_iff.1 Hvv.out).2]);have hf2:=free_of_heap hrw t;have hb2:=lt_of_block hrw;have hrm:=hmod2.heap hrm0 (fun e=>(H1.out.own _ (List.mem_of_getElem? Hvv.out) _ e).1 rfl);have hp2:w2.cell? ⟨B.bM,1,none⟩=some (.slice (some ⟨B.bW,0,none⟩) ws.length jt):=(cell_of_heap hrm 1).trans rfl;have hbm2:=lt_of_block hrm;have Hown2:=Lib.hid hown2;have Hmod2:=Lib.hid hmod2;have Hfr2:=Lib.hid hfr2;clear hown2 hmod2 hfr2 hgr2 hrw hrm hrw0 hrm0)
 all_goals
  go_wp2;go_ret;have hrow2:=Hown2.out;rw[show flat wtVals 0 q++[.int .i64 c,.int .i64 r,.int .i64 W_,.int .i64 V]=flat wtVals 0 (q++[⟨c,r,W_,V⟩])from (flat_wt_snoc ⟨c,r,W_,V⟩ q 0).symm]at hrow2
  have hsr:=H1.out.setRow (q':=q++[⟨c,r,W_,V⟩]) Hvv.out Hmod2.out (by unfold waitRow;rw[List.length_append];exact hrow2) (fun g hg=>(Hfr2.out g hg).imp id (fun h=>by simp at h;omega));exact ⟨rfl,_,(Hu.out.then0 Hm1.out).trans hsr⟩
end Go.Proofs.YtciaficoeajeaaaGreatDoor
