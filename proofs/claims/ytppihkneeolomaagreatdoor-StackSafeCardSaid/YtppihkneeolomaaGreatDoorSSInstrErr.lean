/- quiescentref1.numbers; quiescentref1.InstrError, at right instructions. -/
import Derived.Test.YtppihkneeolomaaGreatDoorSSm2
import Derived.Test.YtppihkneeolomaaGreatDoorSSm3
set_option linter.unusedVariables false
set_option linter.unusedSimpArgs false
set_option linter.unusedSectionVars false
set_option maxHeartbeats 2000000
namespace Go.Proofs.YtppihkneeolomaaGreatDoor
open Go.RowKit Qs Qh
theorem numbers_any(s t:ByteArray)(a b c:Int)(w:World) :
  Calls Tryz.prog 99 #[.agg #[.string s,.int .i64 a,.int .i64 b,.int .i64 c,.string t]] w fun e w'=>∃g,e=.returned (.slice (some ⟨g,0,none⟩) 3 3)∧g<w'.heap.size∧w'.cell? ⟨g,0,none⟩=some (.int .i64 a)∧w'.cell? ⟨g,1,none⟩=some (.int .i64 b)∧w'.cell? ⟨g,2,none⟩=some (.int .i64 c)∧Mod noF w w':=by
 go_enter Tryz.func99,Tryz.ntmps99
 go_wp2;go_ret;exact ⟨_,rfl,by simp,by simp,by simp,by simp,((Mod.refl _ _).alloc _).alloc _⟩
theorem ie_rv(s:ByteArray)(a b:Int)(w:World)(hsh:∀W,Calls Tryz.prog 98 #[.string s] W fun e w'=>e=.returned (.tuple #[.string ⟨#[114,118]⟩,.bool true])∧W=w')(ha0:0≤a)(ha1:a<8)(hb0:0≤b)(hb1:b<4294967296) :
  Calls Tryz.prog 81 #[.agg #[.string s,.int .i64 a,.int .i64 b,.int .i64 0,.string ⟨#[]⟩]] w fun e w'=>e=.returned (.int .i64 0)∧Mod noF w w':=by
 have Hsh:=Lib.hid hsh;clear hsh
 have da0:decide (a<0)=false:=by simpa using ha0
 have da1:decide (8≤a)=false:=by simpa using ha1
 have db0:decide (b<0)=false:=by simpa using hb0
 have db1:decide (4294967296≤b)=false:=by simpa using hb1
 go_enter Tryz.func81,Tryz.ntmps81
 go_wp2_with (go_at_call 98;refine (Hsh.out _).mono ?_;rintro e w' ⟨rfl,rfl⟩)
 refine (numbers_any _ _ _ _ _ _).mono ?_;rintro e w1 ⟨g,rfl,hg,n0,n1,n2,hm1⟩;have b4:w1.cell? ⟨w.heap.size,4,none⟩=some (.string ⟨#[]⟩):=hm1.cell (by simp) (fun e=>e);have hm:Mod noF w w1:=((Mod.refl _ _).alloc _).trans0 hm1;have Hm:=Lib.hid hm;clear hm hm1;go_wp2;refine wp_loop_rounds 3 ?_
 rw[rounds_succ];go_wp2;rw[rounds_succ];go_wp2;rw[rounds_succ];go_wp2;refine wp_loop_rounds 2 ?_;rw[rounds_succ];go_wp2;rw[rounds_succ];go_wp2;refine wp_loop_rounds 3 ?_;rw[rounds_succ];go_wp2;rw[rounds_succ];go_wp2;rw[rounds_succ];go_wp2;go_ret;exact ⟨rfl,Hm.out⟩
theorem ie_rr(s:ByteArray)(a b:Int)(w:World)(hsh:∀W,Calls Tryz.prog 98 #[.string s] W fun e w'=>e=.returned (.tuple #[.string ⟨#[114,114]⟩,.bool true])∧W=w')(ha0:0≤a)(ha1:a<8)(hb0:0≤b)(hb1:b<8) :
  Calls Tryz.prog 81 #[.agg #[.string s,.int .i64 a,.int .i64 b,.int .i64 0,.string ⟨#[]⟩]] w fun e w'=>e=.returned (.int .i64 0)∧Mod noF w w':=by
 have Hsh:=Lib.hid hsh;clear hsh
 have da0:decide (a<0)=false:=by simpa using ha0
 have da1:decide (8≤a)=false:=by simpa using ha1
 have db0:decide (b<0)=false:=by simpa using hb0
 have db1:decide (8≤b)=false:=by simpa using hb1
 go_enter Tryz.func81,Tryz.ntmps81
 go_wp2_with (go_at_call 98;refine (Hsh.out _).mono ?_;rintro e w' ⟨rfl,rfl⟩)
 refine (numbers_any _ _ _ _ _ _).mono ?_;rintro e w1 ⟨g,rfl,hg,n0,n1,n2,hm1⟩;have b4:w1.cell? ⟨w.heap.size,4,none⟩=some (.string ⟨#[]⟩):=hm1.cell (by simp) (fun e=>e);have hm:Mod noF w w1:=((Mod.refl _ _).alloc _).trans0 hm1;have Hm:=Lib.hid hm;clear hm hm1;go_wp2;refine wp_loop_rounds 3 ?_
 rw[rounds_succ];go_wp2;rw[rounds_succ];go_wp2;rw[rounds_succ];go_wp2;refine wp_loop_rounds 2 ?_;rw[rounds_succ];go_wp2;rw[rounds_succ];go_wp2;refine wp_loop_rounds 3 ?_;rw[rounds_succ];go_wp2;rw[rounds_succ];go_wp2;rw[rounds_succ];go_wp2;go_ret;exact ⟨rfl,Hm.out⟩
theorem ie_rrr(s:ByteArray)(a b c:Int)(w:World)(hsh:∀W,Calls Tryz.prog 98 #[.string s] W fun e w'=>e=.returned (.tuple #[.string ⟨#[114,114,114]⟩,.bool true])∧W=w')(ha0:0≤a)(ha1:a<8)(hb0:0≤b)(hb1:b<8)(hc0:0≤c)(hc1:c<8) :
  Calls Tryz.prog 81 #[.agg #[.string s,.int .i64 a,.int .i64 b,.int .i64 c,.string ⟨#[]⟩]] w fun e w'=>e=.returned (.int .i64 0)∧Mod noF w w':=by
 have Hsh:=Lib.hid hsh;clear hsh
 have da0:decide (a<0)=false:=by simpa using ha0
 have da1:decide (8≤a)=false:=by simpa using ha1
 have db0:decide (b<0)=false:=by simpa using hb0
 have db1:decide (8≤b)=false:=by simpa using hb1
 have dc0:decide (c<0)=false:=by simpa using hc0
 have dc1:decide (8≤c)=false:=by simpa using hc1
 go_enter Tryz.func81,Tryz.ntmps81
 go_wp2_with (go_at_call 98;refine (Hsh.out _).mono ?_;rintro e w' ⟨rfl,rfl⟩)
 refine (numbers_any _ _ _ _ _ _).mono ?_;rintro e w1 ⟨g,rfl,hg,n0,n1,n2,hm1⟩;have b4:w1.cell? ⟨w.heap.size,4,none⟩=some (.string ⟨#[]⟩):=hm1.cell (by simp) (fun e=>e);have hm:Mod noF w w1:=((Mod.refl _ _).alloc _).trans0 hm1;have Hm:=Lib.hid hm;clear hm hm1;go_wp2;refine wp_loop_rounds 4 ?_
 rw[rounds_succ];go_wp2;rw[rounds_succ];go_wp2;rw[rounds_succ];go_wp2;rw[rounds_succ];go_wp2;refine wp_loop_rounds 1 ?_;rw[rounds_succ];go_wp2;refine wp_loop_rounds 4 ?_;rw[rounds_succ];go_wp2;rw[rounds_succ];go_wp2;rw[rounds_succ];go_wp2;rw[rounds_succ];go_wp2;go_ret;exact ⟨rfl,Hm.out⟩
theorem ie_rrw(s:ByteArray)(a b c:Int)(w:World)(hsh:∀W,Calls Tryz.prog 98 #[.string s] W fun e w'=>e=.returned (.tuple #[.string ⟨#[114,114,119]⟩,.bool true])∧W=w')(ha0:0≤a)(ha1:a<8)(hb0:0≤b)(hb1:b<8)(hc0:0≤c)(hc1:c<4) :
  Calls Tryz.prog 81 #[.agg #[.string s,.int .i64 a,.int .i64 b,.int .i64 c,.string ⟨#[]⟩]] w fun e w'=>e=.returned (.int .i64 0)∧Mod noF w w':=by
 have Hsh:=Lib.hid hsh;clear hsh
 have da0:decide (a<0)=false:=by simpa using ha0
 have da1:decide (8≤a)=false:=by simpa using ha1
 have db0:decide (b<0)=false:=by simpa using hb0
 have db1:decide (8≤b)=false:=by simpa using hb1
 have dc0:decide (c<0)=false:=by simpa using hc0
 have dc1:decide (4≤c)=false:=by simpa using hc1
 go_enter Tryz.func81,Tryz.ntmps81
 go_wp2_with (go_at_call 98;refine (Hsh.out _).mono ?_;rintro e w' ⟨rfl,rfl⟩)
 refine (numbers_any _ _ _ _ _ _).mono ?_;rintro e w1 ⟨g,rfl,hg,n0,n1,n2,hm1⟩;have b4:w1.cell? ⟨w.heap.size,4,none⟩=some (.string ⟨#[]⟩):=hm1.cell (by simp) (fun e=>e);have hm:Mod noF w w1:=((Mod.refl _ _).alloc _).trans0 hm1;have Hm:=Lib.hid hm;clear hm hm1;go_wp2;refine wp_loop_rounds 4 ?_
 rw[rounds_succ];go_wp2;rw[rounds_succ];go_wp2;rw[rounds_succ];go_wp2;rw[rounds_succ];go_wp2;refine wp_loop_rounds 1 ?_;rw[rounds_succ];go_wp2;refine wp_loop_rounds 4 ?_;rw[rounds_succ];go_wp2;rw[rounds_succ];go_wp2;rw[rounds_succ];go_wp2;rw[rounds_succ];go_wp2;go_ret;exact ⟨rfl,Hm.out⟩
theorem ie_rsw(s:ByteArray)(a b c:Int)(w:World)(hsh:∀W,Calls Tryz.prog 98 #[.string s] W fun e w'=>e=.returned (.tuple #[.string ⟨#[114,115,119]⟩,.bool true])∧W=w')(ha0:0≤a)(ha1:a<8)(hb0:0≤b)(hb1:b<7)(hc0:0≤c)(hc1:c<4) :
  Calls Tryz.prog 81 #[.agg #[.string s,.int .i64 a,.int .i64 b,.int .i64 c,.string ⟨#[]⟩]] w fun e w'=>e=.returned (.int .i64 0)∧Mod noF w w':=by
 have Hsh:=Lib.hid hsh;clear hsh
 have da0:decide (a<0)=false:=by simpa using ha0
 have da1:decide (8≤a)=false:=by simpa using ha1
 have db0:decide (b<0)=false:=by simpa using hb0
 have db1:decide (7≤b)=false:=by simpa using hb1
 have dc0:decide (c<0)=false:=by simpa using hc0
 have dc1:decide (4≤c)=false:=by simpa using hc1
 go_enter Tryz.func81,Tryz.ntmps81
 go_wp2_with (go_at_call 98;refine (Hsh.out _).mono ?_;rintro e w' ⟨rfl,rfl⟩)
 refine (numbers_any _ _ _ _ _ _).mono ?_;rintro e w1 ⟨g,rfl,hg,n0,n1,n2,hm1⟩;have b4:w1.cell? ⟨w.heap.size,4,none⟩=some (.string ⟨#[]⟩):=hm1.cell (by simp) (fun e=>e);have hm:Mod noF w w1:=((Mod.refl _ _).alloc _).trans0 hm1;have Hm:=Lib.hid hm;clear hm hm1;go_wp2;refine wp_loop_rounds 4 ?_
 rw[rounds_succ];go_wp2;rw[rounds_succ];go_wp2;rw[rounds_succ];go_wp2;rw[rounds_succ];go_wp2;refine wp_loop_rounds 1 ?_;rw[rounds_succ];go_wp2;refine wp_loop_rounds 4 ?_;rw[rounds_succ];go_wp2;rw[rounds_succ];go_wp2;rw[rounds_succ];go_wp2;rw[rounds_succ];go_wp2;go_ret;exact ⟨rfl,Hm.out⟩
theorem ie_r(s:ByteArray)(a:Int)(w:World)(hsh:∀W,Calls Tryz.prog 98 #[.string s] W fun e w'=>e=.returned (.tuple #[.string ⟨#[114]⟩,.bool true])∧W=w')(ha0:0≤a)(ha1:a<8) :
  Calls Tryz.prog 81 #[.agg #[.string s,.int .i64 a,.int .i64 0,.int .i64 0,.string ⟨#[]⟩]] w fun e w'=>e=.returned (.int .i64 0)∧Mod noF w w':=by
 have Hsh:=Lib.hid hsh;clear hsh
 have da0:decide (a<0)=false:=by simpa using ha0
 have da1:decide (8≤a)=false:=by simpa using ha1
 go_enter Tryz.func81,Tryz.ntmps81
 go_wp2_with (go_at_call 98;refine (Hsh.out _).mono ?_;rintro e w' ⟨rfl,rfl⟩)
 refine (numbers_any _ _ _ _ _ _).mono ?_;rintro e w1 ⟨g,rfl,hg,n0,n1,n2,hm1⟩;have b4:w1.cell? ⟨w.heap.size,4,none⟩=some (.string ⟨#[]⟩):=hm1.cell (by simp) (fun e=>e);have hm:Mod noF w w1:=((Mod.refl _ _).alloc _).trans0 hm1;have Hm:=Lib.hid hm;clear hm hm1;go_wp2;refine wp_loop_rounds 2 ?_
 rw[rounds_succ];go_wp2;rw[rounds_succ];go_wp2;refine wp_loop_rounds 3 ?_;rw[rounds_succ];go_wp2;rw[rounds_succ];go_wp2;rw[rounds_succ];go_wp2;refine wp_loop_rounds 2 ?_;rw[rounds_succ];go_wp2;rw[rounds_succ];go_wp2;go_ret;exact ⟨rfl,Hm.out⟩
theorem ie_none(s:ByteArray)(w:World)(hsh:∀W,Calls Tryz.prog 98 #[.string s] W fun e w'=>e=.returned (.tuple #[.string ⟨#[]⟩,.bool true])∧W=w') :
  Calls Tryz.prog 81 #[.agg #[.string s,.int .i64 0,.int .i64 0,.int .i64 0,.string ⟨#[]⟩]] w fun e w'=>e=.returned (.int .i64 0)∧Mod noF w w':=by
 have Hsh:=Lib.hid hsh;clear hsh
 go_enter Tryz.func81,Tryz.ntmps81
 go_wp2_with (go_at_call 98;refine (Hsh.out _).mono ?_;rintro e w' ⟨rfl,rfl⟩)
 refine (numbers_any _ _ _ _ _ _).mono ?_;rintro e w1 ⟨g,rfl,hg,n0,n1,n2,hm1⟩;have b4:w1.cell? ⟨w.heap.size,4,none⟩=some (.string ⟨#[]⟩):=hm1.cell (by simp) (fun e=>e);have hm:Mod noF w w1:=((Mod.refl _ _).alloc _).trans0 hm1;have Hm:=Lib.hid hm;clear hm hm1;go_wp2;refine wp_loop_rounds 1 ?_
 rw[rounds_succ];go_wp2;refine wp_loop_rounds 4 ?_;rw[rounds_succ];go_wp2;rw[rounds_succ];go_wp2;rw[rounds_succ];go_wp2;rw[rounds_succ];go_wp2;refine wp_loop_rounds 1 ?_;rw[rounds_succ];go_wp2;go_ret;exact ⟨rfl,Hm.out⟩
theorem ie_rl(s:ByteArray)(a:Int)(t:ByteArray)(w:World)(hsh:∀W,Calls Tryz.prog 98 #[.string s] W fun e w'=>e=.returned (.tuple #[.string ⟨#[114,108]⟩,.bool true])∧W=w')(ha0:0≤a)(ha1:a<8)(hts:t.size≤maxLen)(htn:nameB t.data.toList=true) :
  Calls Tryz.prog 81 #[.agg #[.string s,.int .i64 a,.int .i64 0,.int .i64 0,.string t]] w fun e w'=>e=.returned (.int .i64 0)∧Mod noF w w':=by
 have Hsh:=Lib.hid hsh;clear hsh
 have da0:decide (a<0)=false:=by simpa using ha0
 have da1:decide (8≤a)=false:=by simpa using ha1
 have Htn:=Lib.hid htn;clear htn
 go_enter Tryz.func81,Tryz.ntmps81
 go_wp2_with (go_at_call 98;refine (Hsh.out _).mono ?_;rintro e w' ⟨rfl,rfl⟩)
 refine (numbers_any _ _ _ _ _ _).mono ?_;rintro e w1 ⟨g,rfl,hg,n0,n1,n2,hm1⟩;have b4:w1.cell? ⟨w.heap.size,4,none⟩=some (.string t):=hm1.cell (by simp) (fun e=>e);have hm:Mod noF w w1:=((Mod.refl _ _).alloc _).trans0 hm1;have Hm:=Lib.hid hm;clear hm hm1;go_wp2;refine wp_loop_rounds 3 ?_
 rw[rounds_succ];go_wp2;rw[rounds_succ];go_wp2;rw[rounds_succ];go_wp2;refine wp_loop_rounds 3 ?_;rw[rounds_succ];go_wp2;rw[rounds_succ];go_wp2;rw[rounds_succ];go_wp2;refine wp_loop_rounds 2 ?_;rw[rounds_succ];go_wp2;rw[rounds_succ]
 go_wp2_with (go_at_call 100;refine (isName_any _ _ hts).mono ?_;rintro e w' ⟨rfl,rfl⟩;rw[Htn.out])
 go_ret;exact ⟨rfl,Hm.out⟩
theorem ie_rrl(s:ByteArray)(a b:Int)(t:ByteArray)(w:World)(hsh:∀W,Calls Tryz.prog 98 #[.string s] W fun e w'=>e=.returned (.tuple #[.string ⟨#[114,114,108]⟩,.bool true])∧W=w')(ha0:0≤a)(ha1:a<8)(hb0:0≤b)(hb1:b<8)(hts:t.size≤maxLen)(htn:nameB t.data.toList=true) :
  Calls Tryz.prog 81 #[.agg #[.string s,.int .i64 a,.int .i64 b,.int .i64 0,.string t]] w fun e w'=>e=.returned (.int .i64 0)∧Mod noF w w':=by
 have Hsh:=Lib.hid hsh;clear hsh
 have da0:decide (a<0)=false:=by simpa using ha0
 have da1:decide (8≤a)=false:=by simpa using ha1
 have db0:decide (b<0)=false:=by simpa using hb0
 have db1:decide (8≤b)=false:=by simpa using hb1
 have Htn:=Lib.hid htn;clear htn
 go_enter Tryz.func81,Tryz.ntmps81
 go_wp2_with (go_at_call 98;refine (Hsh.out _).mono ?_;rintro e w' ⟨rfl,rfl⟩)
 refine (numbers_any _ _ _ _ _ _).mono ?_;rintro e w1 ⟨g,rfl,hg,n0,n1,n2,hm1⟩;have b4:w1.cell? ⟨w.heap.size,4,none⟩=some (.string t):=hm1.cell (by simp) (fun e=>e);have hm:Mod noF w w1:=((Mod.refl _ _).alloc _).trans0 hm1;have Hm:=Lib.hid hm;clear hm hm1;go_wp2;refine wp_loop_rounds 4 ?_
 rw[rounds_succ];go_wp2;rw[rounds_succ];go_wp2;rw[rounds_succ];go_wp2;rw[rounds_succ];go_wp2;refine wp_loop_rounds 2 ?_;rw[rounds_succ];go_wp2;rw[rounds_succ];go_wp2;refine wp_loop_rounds 3 ?_;rw[rounds_succ];go_wp2;rw[rounds_succ];go_wp2;rw[rounds_succ]
 go_wp2_with (go_at_call 100;refine (isName_any _ _ hts).mono ?_;rintro e w' ⟨rfl,rfl⟩;rw[Htn.out])
 go_ret;exact ⟨rfl,Hm.out⟩
theorem ie_l(s:ByteArray)(t:ByteArray)(w:World)(hsh:∀W,Calls Tryz.prog 98 #[.string s] W fun e w'=>e=.returned (.tuple #[.string ⟨#[108]⟩,.bool true])∧W=w')(hts:t.size≤maxLen)(htn:nameB t.data.toList=true) :
  Calls Tryz.prog 81 #[.agg #[.string s,.int .i64 0,.int .i64 0,.int .i64 0,.string t]] w fun e w'=>e=.returned (.int .i64 0)∧Mod noF w w':=by
 have Hsh:=Lib.hid hsh;clear hsh;have Htn:=Lib.hid htn;clear htn
 go_enter Tryz.func81,Tryz.ntmps81
 go_wp2_with (go_at_call 98;refine (Hsh.out _).mono ?_;rintro e w' ⟨rfl,rfl⟩)
 refine (numbers_any _ _ _ _ _ _).mono ?_;rintro e w1 ⟨g,rfl,hg,n0,n1,n2,hm1⟩;have b4:w1.cell? ⟨w.heap.size,4,none⟩=some (.string t):=hm1.cell (by simp) (fun e=>e);have hm:Mod noF w w1:=((Mod.refl _ _).alloc _).trans0 hm1;have Hm:=Lib.hid hm;clear hm hm1;go_wp2;refine wp_loop_rounds 2 ?_
 rw[rounds_succ];go_wp2;rw[rounds_succ];go_wp2;refine wp_loop_rounds 4 ?_;rw[rounds_succ];go_wp2;rw[rounds_succ];go_wp2;rw[rounds_succ];go_wp2;rw[rounds_succ];go_wp2;refine wp_loop_rounds 1 ?_;rw[rounds_succ]
 go_wp2_with (go_at_call 100;refine (isName_any _ _ hts).mono ?_;rintro e w' ⟨rfl,rfl⟩;rw[Htn.out])
 go_ret;exact ⟨rfl,Hm.out⟩
end Go.Proofs.YtppihkneeolomaaGreatDoor
