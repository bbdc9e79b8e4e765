/- errors.Is, plain.Code at an *api.Fault that holds a sentinel; at an error of another make. -/
import Derived.Test.YtciaficoeajeaaaGreatDoorMRFault
import Derived.LoopTactic
set_option linter.unusedVariables false
set_option linter.unusedSimpArgs false
set_option linter.unusedSectionVars false
set_option maxHeartbeats 4000000
namespace Go.Proofs.YtciaficoeajeaaaGreatDoor
open Go.RowKit Go.Extern.Stop Go.Stop Go.Extern Qh
theorem noIsF(v:Value)(xT:TypeId)(w:World):(Instr.typeAssert (.iface 89 v) xT 228 true).run Tryz.prog w=.ok (.tuple #[.nilIface,.bool false]) w:=run_typeAssert_lacksB Tryz.underlying228 (by kernel_rfl) (by kernel_rfl) v xT w
theorem hasUnwrapF(v:Value)(xT:TypeId)(w:World):(Instr.typeAssert (.iface 89 v) xT 213 true).run Tryz.prog w=.ok (.tuple #[.iface 89 v,.bool true]) w:=run_typeAssert_hasB Tryz.underlying213 (by kernel_rfl) v xT w
theorem methodUnwrapF (v : Value) (w : World) : (Go.method 373 89 v "Unwrap").run Tryz.prog w = .ok (156, v) w := by kernel_rfl
theorem is_fault_same(pb:Nat)(b:Addr)(w:World)(h1:w.cell? ⟨pb,1,none⟩=some (.iface 241 (.pointer (some b)))) :
  Calls Tryz.prog 58 #[.iface 89 (.pointer (some ⟨pb,0,none⟩)),.iface 241 (.pointer (some b))] w fun e w'=>e=.returned (.bool true)∧w'=w:=by
 obtain ⟨i,hi,hcmp⟩:=Option.map_eq_some_iff.1 isComp;obtain ⟨j,hj,hjs⟩:=Option.map_eq_some_iff.1 isSize;have tT:=isTypeOf;have cT:=isComparable;have mR:=isMethodComparable;have nW:=noIsF;have uW:=hasUnwrapF;have mU:=methodUnwrapF
 have heq:=run_eql_iface_ptr_same (P:=Tryz.prog) w b Tryz.underlying31 Tryz.underlying241 hi hcmp hj;have hty:=run_eql_iface_types (P:=Tryz.prog) 89 241 (.pointer (some ⟨pb,0,none⟩)) (.pointer (some b)) Tryz.underlying31 (by decide) w
 go_enter Tryz.func58,Tryz.ntmps58
 go_wp2;refine wp_loop_rounds 2 ?_;rw[rounds_succ];go_wp2;rw[rounds_succ];go_wp2;go_ret;exact ⟨rfl,rfl⟩
theorem is_fault_other(pb:Nat)(b a:Addr)(ca cb:Array Value)(ta tb:TypeId)(w:World)(h1:w.cell? ⟨pb,1,none⟩=some (.iface 241 (.pointer (some a))))(hne:a≠b)(ha:w.heap[a.block]?=some (.cells ca ta (0,0)))(hb:w.heap[b.block]?=some (.cells cb tb (0,0))) :
  Calls Tryz.prog 58 #[.iface 89 (.pointer (some ⟨pb,0,none⟩)),.iface 241 (.pointer (some b))] w fun e w'=>e=.returned (.bool false)∧w'=w:=by
 obtain ⟨i,hi,hcmp⟩:=Option.map_eq_some_iff.1 isComp;obtain ⟨j,hj,hjs⟩:=Option.map_eq_some_iff.1 isSize;have tT:=isTypeOf;have cT:=isComparable;have mR:=isMethodComparable;have nE:=noIsE;have uE:=noUnwrapE;have vE:=noUnwrapsE;have nW:=noIsF;have uW:=hasUnwrapF;have mU:=methodUnwrapF
 have heq:=run_eql_iface_ptr_other (P:=Tryz.prog) w Tryz.underlying31 Tryz.underlying241 hi hcmp hj (by rw[hjs];decide) hne ha hb
 have hty:=run_eql_iface_types (P:=Tryz.prog) 89 241 (.pointer (some ⟨pb,0,none⟩)) (.pointer (some b)) Tryz.underlying31 (by decide) w
 go_enter Tryz.func58,Tryz.ntmps58
 go_wp2;refine wp_loop_rounds 2 ?_;rw[rounds_succ];go_wp2;rw[rounds_succ];go_wp2;go_ret;exact ⟨rfl,rfl⟩
theorem is_fault_at{W:World}{a:Nat→Addr}(h:ErrsAt W a){i k:Nat}(hi:i<9)(hk:k<9){pb:Nat}(h1:W.cell? ⟨pb,1,none⟩=some (errV a i)) :
  Calls Tryz.prog 58 #[.iface 89 (.pointer (some ⟨pb,0,none⟩)),errV a k] W fun e w'=>e=.returned (.bool (decide (i=k)))∧w'=W:=by
 by_cases e:i=k
 ·subst e;exact (is_fault_same pb (a i) W h1).mono fun _ _ h=>⟨by rw[h.1];simp,h.2⟩
 ·obtain ⟨c,t,e1⟩:=h.obj i hi;obtain ⟨c2,t2,e2⟩:=h.obj k hk;exact (is_fault_other pb (a k) (a i) c c2 t t2 W h1 (h.inj i k hi hk e) e1 e2).mono fun _ _ h=>⟨by rw[h.1];simp[e],h.2⟩
theorem code_fault{w:World}{a:Nat→Addr}(E:ErrsAt w a)(i:Nat)(hi:i<9)(pb:Nat)(n:Int)(hp0:w.cell? ⟨pb,0,none⟩=some (.int .i64 n))(hp1:w.cell? ⟨pb,1,none⟩=some (errV a i)) :
  Calls Tryz.prog 45 #[.iface 89 (.pointer (some ⟨pb,0,none⟩))] w fun e w'=>e=.returned (.tuple #[.int .i64 ((i:Int)+1),.int .i64 n])∧Mod noF w w':=by
 have HE:=Lib.hid E;clear E
 go_enter Tryz.func45,Tryz.ntmps45
 go_wp2_with fail
 refine (as_hit ⟨pb,0,none⟩ ⟨w.heap.size,0,none⟩ (.pointer none) _ ((HE.out.keep ((Mod.refl noF w).alloc _)).et) (by simp) (by simp)).mono ?_;rintro e w2 ⟨rfl,hm2,hf2⟩;have hm:Mod noF w w2:=((Mod.refl noF w).alloc (.cells #[.pointer none] 89)).trans hm2 (fun x hx e=>by simp at e;omega)
 have q0:=hm.cell hp0 (fun e=>e);have q1:=hm.cell hp1 (fun e=>e);have Q1:=Lib.hid q1;clear q1 hp0 hp1;have E2:=HE.out.keep hm;have v0:=E2.v0;have v1:=E2.v1;have v2:=E2.v2;have v3:=E2.v3;have v4:=E2.v4;have v5:=E2.v5;have v6:=E2.v6;have v7:=E2.v7;have v8:=E2.v8;have Hm:=Lib.hid hm
 have HE2:=Lib.hid E2;clear hm2 hm E2;go_wp2
 obtain ⟨wx,hwx⟩:∃wx,w2.alloc (.cells #[.iface 241 (.pointer (some (a 0))),.iface 241 (.pointer (some (a 1))),.iface 241 (.pointer (some (a 2))),.iface 241 (.pointer (some (a 3))),.iface 241 (.pointer (some (a 4))),.iface 241 (.pointer (some (a 5))),.iface 241 (.pointer (some (a 6))),.iface 241 (.pointer (some (a 7))),.iface 241 (.pointer (some (a 8)))] 31)=wx:=⟨_,rfl⟩
 rw[hwx];have hq:Mod noF w2 wx:=hwx ▸ (Mod.refl noF w2).alloc _;have E3:=HE2.out.keep hq
 have hnew:=hwx ▸ heap_alloc_new w2 (.cells #[.iface 241 (.pointer (some (a 0))),.iface 241 (.pointer (some (a 1))),.iface 241 (.pointer (some (a 2))),.iface 241 (.pointer (some (a 3))),.iface 241 (.pointer (some (a 4))),.iface 241 (.pointer (some (a 5))),.iface 241 (.pointer (some (a 6))),.iface 241 (.pointer (some (a 7))),.iface 241 (.pointer (some (a 8)))] 31)
 have hq1:=hq.cell Q1.out (fun e=>e);have Hq1:=Lib.hid hq1;clear hq1
 have hcell:∀k:Nat,k<9→wx.cell? ⟨w2.heap.size,0+k,none⟩=some (errV a k):=fun k hk=>by
  rw[cell_of_heap hnew]
  rcases (by omega:k=0∨k=1∨k=2∨k=3∨k=4∨k=5∨k=6∨k=7∨k=8)with rfl|rfl|rfl|rfl|rfl|rfl|rfl|rfl|rfl <;> rfl
 have hfin:=Hm.out.trans0 hq;have HE3:=Lib.hid E3;have Hcell:=Lib.hid hcell;have Hfin:=Lib.hid hfin;clear hwx hq E3 hnew hcell hfin v0 v1 v2 v3 v4 v5 v6 v7 v8
 go_loop [3,5,6,27] (fun v3 _ _ x=>∃k:Nat,k≤i∧x=.int .i64 k∧v3=.int .i64 n) (fun _ _ _ x=>9 - (intOf x).toNat)
 case atStart=>exact ⟨0,Nat.zero_le _,rfl,rfl⟩
 case round=>
  obtain ⟨k,hk,rfl,rfl⟩:=hrel
  have hlt:(k:Int)<9:=by omega
  have hd:decide ((k:Int)<9)=true:=by simp;omega
  have hc:=Hcell.out k (by omega);rw[Nat.zero_add]at hc;have hcall:=is_fault_at HE3.out hi (show k<9 by omega) Hq1.out;unfold errV at hc hcall;have Hcall:=Lib.hid hcall;clear hcall
  go_wp2_with fail
  refine Hcall.out.mono ?_;rintro e w' ⟨rfl,rfl⟩
  by_cases e:i=k
  ·subst e
   have hdd:decide (i=i)=true:=by simp
   rw[hdd];clear hdd;go_wp2;go_ret2;exact ⟨rfl,Hfin.out⟩
  ·have hdd:decide (i=k)=false:=by simpa using e
   have hik:k<i:=by omega
   rw[hdd];clear hdd e;go_wp2
   go_round
   case rel=>exact ⟨k+1,by omega,by go_num,rfl⟩
   case measure=>simp[intOf];omega
end Go.Proofs.YtciaficoeajeaaaGreatDoor
