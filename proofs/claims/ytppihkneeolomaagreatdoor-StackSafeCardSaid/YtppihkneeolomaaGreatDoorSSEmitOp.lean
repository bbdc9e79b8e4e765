/- (*emit.Code).Op. -/
import Derived.Test.YtppihkneeolomaaGreatDoorSSm2
import Derived.Test.YtppihkneeolomaaGreatDoorProg
import Derived.WalkKit
import Derived.Deep.QuietTactic
import Derived.BigQuiet
import Derived.Lib.Hide
set_option linter.unusedVariables false
set_option linter.unusedSimpArgs false
set_option linter.unusedSectionVars false
set_option maxHeartbeats 2000000
namespace Go.Proofs.YtppihkneeolomaaGreatDoor
open Go.RowKit Qs Qh
theorem insInfo:(Tryz.prog.info? 143).map (fun i=>(i.zero,i.size,i.bytes))=some (some (.agg #[.string ⟨#[]⟩,.int .i64 0,.int .i64 0,.int .i64 0,.string ⟨#[]⟩]),5,56):=by kernel_rfl
def insT:TypeId:=143
def Emitted(w:World)(b o:Nat)(v:Value)(l:List Instr)(e:Ending)(w':World):Prop:=
 e=.returned (.pointer (some ⟨b,o,none⟩))∧∃v',Emit insT w' b o v' l∧Grew w w' b o v v'
theorem op0_any(w:World)(b o:Nat)(v:Value)(l:List Instr)(E:Emit insT w b o v l)(hlen:l.length≤1000000)(n:Nat)(s:ByteArray)(hs:opStr n=s) :
  Calls Tryz.prog 49 #[.pointer (some ⟨b,o,none⟩),.string s,.slice none 0 0] w (Emitted w b o v (l++[⟨n,0,0,0,[]⟩])):=by
 have HE:=Lib.hid E;obtain ⟨ec,ef,er,en,el⟩:=E;obtain ⟨a,cp,rfl,hcp,hlm⟩:=er.slice;have Hs:=Lib.hid hs;have Her:=Lib.hid er;have hnb':¬((Value.slice a l.length cp).ownBlock=some b):=fun h=>en b h rfl;have Hnb:=Lib.hid hnb';clear hs er en hnb';obtain ⟨i0,hi,hz0,hz1,hz2⟩:=info_parts insInfo
 have hbnd:(l.length+1)≤maxLen:=by unfold maxLen;omega
 have el1:b<w.heap.size+1:=by omega
 have el2:b<w.heap.size+1+1:=by omega
 go_enter Tryz.func49,Tryz.ntmps49
 go_wp2;refine wp_loop_rounds 1 ?_;rw[rounds_succ];go_wp2
 go_region_law (refine step_append_mine _ rfl (.tmp 36) (.tmp 38) 71 rfl 143 i0 (.agg #[.string ⟨#[]⟩,.int .i64 0,.int .i64 0,.int .i64 0,.string ⟨#[]⟩]) 5 56 Tryz.underlying71 hi hz0 hz1 hz2 rfl (by decide) _ l.length (flat insV 0 l) rfl (by exact World.ownsRow.alloc (World.ownsRow.alloc (World.ownsRow.alloc Her.out _) _) _) ⟨w.heap.size+1+1,0,none⟩ 1 1 [.string s,.int .i64 0,.int .i64 0,.int .i64 0,.string ⟨#[]⟩] rfl rfl (new_cells_at ((w.alloc (.cells #[.string s,.int .i64 0,.int .i64 0,.int .i64 0,.string ⟨#[]⟩] 143)).alloc (.cells #[.pointer (some ⟨w.heap.size,1,none⟩),.pointer (some ⟨w.heap.size,2,none⟩),.pointer (some ⟨w.heap.size,3,none⟩)] 145)) _ _ (size2 _ _ _)) (ins_one s 0 0 0 ⟨#[]⟩) hbnd (by omega) ?_;intro v1 w2 hown2 hgr2 hfr2 _;obtain ⟨xa,xb,xc,rfl⟩:=slice_of_own hown2;have hm2:=appended hgr2 ((((Mod.refl noF w).alloc _).alloc _).alloc _).drew;have hc2:=(World.cell?_of_block (hm2.block b el Hnb.out)).trans ec;have hf2:=(World.frozen?_of_block (hm2.block b el Hnb.out)).trans ef)
 all_goals
  go_wp2;go_ret;have:=HE.out.append hm2 (x:=[⟨n,0,0,0,[]⟩]) (by have e:=Hs.out;subst e;exact hown2) (by first|(simp;done)|(simp;omega)) hfr2;exact ⟨rfl,_,this⟩
theorem op1_any(w:World)(b o:Nat)(v:Value)(l:List Instr)(E:Emit insT w b o v l)(hlen:l.length≤1000000)(n:Nat)(s:ByteArray)(hs:opStr n=s)(nb:Nat)(x:Int)(c:Nat)(h0:w.cell? ⟨nb,0,none⟩=some (.int .i64 x))(hnb:nb<w.heap.size) :
  Calls Tryz.prog 49 #[.pointer (some ⟨b,o,none⟩),.string s,.slice (some ⟨nb,0,none⟩) 1 c] w (Emitted w b o v (l++[⟨n,x,0,0,[]⟩])):=by
 have HE:=Lib.hid E;obtain ⟨ec,ef,er,en,el⟩:=E;obtain ⟨a,cp,rfl,hcp,hlm⟩:=er.slice;have Hs:=Lib.hid hs;have Her:=Lib.hid er;have hnb':¬((Value.slice a l.length cp).ownBlock=some b):=fun h=>en b h rfl;have Hnb:=Lib.hid hnb';clear hs er en hnb';obtain ⟨i0,hi,hz0,hz1,hz2⟩:=info_parts insInfo
 have hbnd:(l.length+1)≤maxLen:=by unfold maxLen;omega
 have el1:b<w.heap.size+1:=by omega
 have el2:b<w.heap.size+1+1:=by omega
 go_enter Tryz.func49,Tryz.ntmps49
 go_wp2;refine wp_loop_rounds 2 ?_;rw[rounds_succ];go_wp2;rw[rounds_succ];go_wp2
 go_region_law (refine step_append_mine _ rfl (.tmp 36) (.tmp 38) 71 rfl 143 i0 (.agg #[.string ⟨#[]⟩,.int .i64 0,.int .i64 0,.int .i64 0,.string ⟨#[]⟩]) 5 56 Tryz.underlying71 hi hz0 hz1 hz2 rfl (by decide) _ l.length (flat insV 0 l) rfl (by exact World.ownsRow.alloc (World.ownsRow.alloc (World.ownsRow.alloc Her.out _) _) _) ⟨w.heap.size+1+1,0,none⟩ 1 1 [.string s,.int .i64 x,.int .i64 0,.int .i64 0,.string ⟨#[]⟩] rfl rfl (new_cells_at ((w.alloc (.cells #[.string s,.int .i64 x,.int .i64 0,.int .i64 0,.string ⟨#[]⟩] 143)).alloc (.cells #[.pointer (some ⟨w.heap.size,1,none⟩),.pointer (some ⟨w.heap.size,2,none⟩),.pointer (some ⟨w.heap.size,3,none⟩)] 145)) _ _ (size2 _ _ _)) (ins_one s x 0 0 ⟨#[]⟩) hbnd (by omega) ?_;intro v1 w2 hown2 hgr2 hfr2 _;obtain ⟨xa,xb,xc,rfl⟩:=slice_of_own hown2;have hm2:=appended hgr2 ((((Mod.refl noF w).alloc _).alloc _).alloc _).drew;have hc2:=(World.cell?_of_block (hm2.block b el Hnb.out)).trans ec;have hf2:=(World.frozen?_of_block (hm2.block b el Hnb.out)).trans ef)
 all_goals
  go_wp2;go_ret;have:=HE.out.append hm2 (x:=[⟨n,x,0,0,[]⟩]) (by have e:=Hs.out;subst e;exact hown2) (by first|(simp;done)|(simp;omega)) hfr2;exact ⟨rfl,_,this⟩
theorem op2_any(w:World)(b o:Nat)(v:Value)(l:List Instr)(E:Emit insT w b o v l)(hlen:l.length≤1000000)(n:Nat)(s:ByteArray)(hs:opStr n=s)(nb:Nat)(x y:Int)(c:Nat)(h0:w.cell? ⟨nb,0,none⟩=some (.int .i64 x))(h1:w.cell? ⟨nb,1,none⟩=some (.int .i64 y))(hnb:nb<w.heap.size) :
  Calls Tryz.prog 49 #[.pointer (some ⟨b,o,none⟩),.string s,.slice (some ⟨nb,0,none⟩) 2 c] w (Emitted w b o v (l++[⟨n,x,y,0,[]⟩])):=by
 have HE:=Lib.hid E;obtain ⟨ec,ef,er,en,el⟩:=E;obtain ⟨a,cp,rfl,hcp,hlm⟩:=er.slice;have Hs:=Lib.hid hs;have Her:=Lib.hid er;have hnb':¬((Value.slice a l.length cp).ownBlock=some b):=fun h=>en b h rfl;have Hnb:=Lib.hid hnb';clear hs er en hnb';obtain ⟨i0,hi,hz0,hz1,hz2⟩:=info_parts insInfo
 have hbnd:(l.length+1)≤maxLen:=by unfold maxLen;omega
 have el1:b<w.heap.size+1:=by omega
 have el2:b<w.heap.size+1+1:=by omega
 go_enter Tryz.func49,Tryz.ntmps49
 go_wp2;refine wp_loop_rounds 3 ?_;rw[rounds_succ];go_wp2;rw[rounds_succ];go_wp2;rw[rounds_succ];go_wp2
 go_region_law (refine step_append_mine _ rfl (.tmp 36) (.tmp 38) 71 rfl 143 i0 (.agg #[.string ⟨#[]⟩,.int .i64 0,.int .i64 0,.int .i64 0,.string ⟨#[]⟩]) 5 56 Tryz.underlying71 hi hz0 hz1 hz2 rfl (by decide) _ l.length (flat insV 0 l) rfl (by exact World.ownsRow.alloc (World.ownsRow.alloc (World.ownsRow.alloc Her.out _) _) _) ⟨w.heap.size+1+1,0,none⟩ 1 1 [.string s,.int .i64 x,.int .i64 y,.int .i64 0,.string ⟨#[]⟩] rfl rfl (new_cells_at ((w.alloc (.cells #[.string s,.int .i64 x,.int .i64 y,.int .i64 0,.string ⟨#[]⟩] 143)).alloc (.cells #[.pointer (some ⟨w.heap.size,1,none⟩),.pointer (some ⟨w.heap.size,2,none⟩),.pointer (some ⟨w.heap.size,3,none⟩)] 145)) _ _ (size2 _ _ _)) (ins_one s x y 0 ⟨#[]⟩) hbnd (by omega) ?_;intro v1 w2 hown2 hgr2 hfr2 _;obtain ⟨xa,xb,xc,rfl⟩:=slice_of_own hown2;have hm2:=appended hgr2 ((((Mod.refl noF w).alloc _).alloc _).alloc _).drew;have hc2:=(World.cell?_of_block (hm2.block b el Hnb.out)).trans ec;have hf2:=(World.frozen?_of_block (hm2.block b el Hnb.out)).trans ef)
 all_goals
  go_wp2;go_ret;have:=HE.out.append hm2 (x:=[⟨n,x,y,0,[]⟩]) (by have e:=Hs.out;subst e;exact hown2) (by first|(simp;done)|(simp;omega)) hfr2;exact ⟨rfl,_,this⟩
theorem op3_any(w:World)(b o:Nat)(v:Value)(l:List Instr)(E:Emit insT w b o v l)(hlen:l.length≤1000000)(n:Nat)(s:ByteArray)(hs:opStr n=s)(nb:Nat)(x y z:Int)(c:Nat)(h0:w.cell? ⟨nb,0,none⟩=some (.int .i64 x))(h1:w.cell? ⟨nb,1,none⟩=some (.int .i64 y))(h2:w.cell? ⟨nb,2,none⟩=some (.int .i64 z))(hnb:nb<w.heap.size) :
  Calls Tryz.prog 49 #[.pointer (some ⟨b,o,none⟩),.string s,.slice (some ⟨nb,0,none⟩) 3 c] w (Emitted w b o v (l++[⟨n,x,y,z,[]⟩])):=by
 have HE:=Lib.hid E;obtain ⟨ec,ef,er,en,el⟩:=E;obtain ⟨a,cp,rfl,hcp,hlm⟩:=er.slice;have Hs:=Lib.hid hs;have Her:=Lib.hid er;have hnb':¬((Value.slice a l.length cp).ownBlock=some b):=fun h=>en b h rfl;have Hnb:=Lib.hid hnb';clear hs er en hnb';obtain ⟨i0,hi,hz0,hz1,hz2⟩:=info_parts insInfo
 have hbnd:(l.length+1)≤maxLen:=by unfold maxLen;omega
 have el1:b<w.heap.size+1:=by omega
 have el2:b<w.heap.size+1+1:=by omega
 go_enter Tryz.func49,Tryz.ntmps49
 go_wp2;refine wp_loop_rounds 4 ?_;rw[rounds_succ];go_wp2;rw[rounds_succ];go_wp2;rw[rounds_succ];go_wp2;rw[rounds_succ];go_wp2
 go_region_law (refine step_append_mine _ rfl (.tmp 36) (.tmp 38) 71 rfl 143 i0 (.agg #[.string ⟨#[]⟩,.int .i64 0,.int .i64 0,.int .i64 0,.string ⟨#[]⟩]) 5 56 Tryz.underlying71 hi hz0 hz1 hz2 rfl (by decide) _ l.length (flat insV 0 l) rfl (by exact World.ownsRow.alloc (World.ownsRow.alloc (World.ownsRow.alloc Her.out _) _) _) ⟨w.heap.size+1+1,0,none⟩ 1 1 [.string s,.int .i64 x,.int .i64 y,.int .i64 z,.string ⟨#[]⟩] rfl rfl (new_cells_at ((w.alloc (.cells #[.string s,.int .i64 x,.int .i64 y,.int .i64 z,.string ⟨#[]⟩] 143)).alloc (.cells #[.pointer (some ⟨w.heap.size,1,none⟩),.pointer (some ⟨w.heap.size,2,none⟩),.pointer (some ⟨w.heap.size,3,none⟩)] 145)) _ _ (size2 _ _ _)) (ins_one s x y z ⟨#[]⟩) hbnd (by omega) ?_;intro v1 w2 hown2 hgr2 hfr2 _;obtain ⟨xa,xb,xc,rfl⟩:=slice_of_own hown2;have hm2:=appended hgr2 ((((Mod.refl noF w).alloc _).alloc _).alloc _).drew;have hc2:=(World.cell?_of_block (hm2.block b el Hnb.out)).trans ec;have hf2:=(World.frozen?_of_block (hm2.block b el Hnb.out)).trans ef)
 all_goals
  go_wp2;go_ret;have:=HE.out.append hm2 (x:=[⟨n,x,y,z,[]⟩]) (by have e:=Hs.out;subst e;exact hown2) (by first|(simp;done)|(simp;omega)) hfr2;exact ⟨rfl,_,this⟩
end Go.Proofs.YtppihkneeolomaaGreatDoor
