/- package grace: join, away, each, turn. -/
import Derived.Test.YtppihkneeolomaaGreatDoorSSm2
import Derived.Test.YtppihkneeolomaaGreatDoorSSm6
import Derived.Laws.Entries
set_option linter.unusedVariables false
set_option linter.unusedSimpArgs false
set_option linter.unusedSectionVars false
set_option maxHeartbeats 8000000
namespace Go.Proofs.YtppihkneeolomaaGreatDoor
open Go.RowKit Qs Qh
variable {w0 w w1:World}{b o:Nat}{v0:Value}{l:List Instr}{br s:ByteArray}{fe jo co:Bool}{u:Value}{c:Nat}
def awayCode:List Instr:=[⟨0,0,0,0,[]⟩,⟨7,6,0,0,[]⟩,⟨12,0,0,0,[]⟩]
def joinCode(s:ByteArray):List Instr:=[⟨6,0,6,2,[]⟩,⟨14,0,0,0,s.data.toList++[46,106]⟩,⟨16,0,0,0,s.data.toList++[46,107]⟩,⟨17,0,0,0,s.data.toList++[46,106]⟩]++(takeCode (s.data.toList++[116]) 7 1 0++([⟨6,0,7,2,[]⟩,⟨7,6,0,1,[]⟩,⟨7,7,6,2,[]⟩,⟨0,0,1,0,[]⟩,⟨7,6,0,2,[]⟩]++(giveCode 7 1 0++([⟨17,0,0,0,s.data.toList++[46,107]⟩]))))
def turnGo(q:ByteArray):List Instr:=[⟨0,1,255,0,[]⟩,⟨4,1,0,1,[]⟩,⟨14,1,0,0,q.data.toList++[110]⟩,⟨6,1,7,0,[]⟩,⟨5,1,0,1,[]⟩,⟨0,0,256,0,[]⟩,⟨4,1,1,0,[]⟩,⟨14,1,0,0,q.data.toList++[110]⟩]
def waitGo(q:ByteArray):List Instr:=[⟨14,0,0,0,q.data.toList++[46,120,110]⟩,⟨6,1,7,0,[]⟩,⟨15,0,1,0,q.data.toList++[46,120,110]⟩]
def eachCode(go:List Instr)(p:ByteArray):List Instr:=[⟨6,2,7,2,[]⟩,⟨17,0,0,0,p.data.toList++[108]⟩,⟨14,2,0,0,p.data.toList++[111]⟩,⟨17,0,0,0,p.data.toList++[115]⟩,⟨6,0,2,0,[]⟩]++(go++[⟨16,0,0,0,p.data.toList++[115]⟩,⟨17,0,0,0,p.data.toList++[110]⟩,⟨6,2,2,1,[]⟩,⟨16,0,0,0,p.data.toList++[108]⟩,⟨17,0,0,0,p.data.toList++[111]⟩])
def turnCode(n:Nat)(q:ByteArray):List Instr:=[⟨6,0,7,0,[]⟩,⟨0,1,256,0,[]⟩,⟨5,0,0,1,[]⟩,⟨7,7,0,0,[]⟩,⟨n,0,0,0,[]⟩]++(eachCode (turnGo q) q)
theorem gaway_chain(C:Chain w0 b 4 v0 l w)(hlen:l.length≤1000) :
  Calls Tryz.prog 80 #[.pointer (some ⟨b,0,none⟩)] w fun e w'=>e=.returned (.tuple #[])∧Chain w0 b 4 v0 (l++awayCode) w':=by
 have HC:=Lib.hid C;clear C
 go_enter Tryz.func80,Tryz.ntmps80
 go_wp2_with fail
 refine (op2_chain (HC.out.quiet ((Mod.refl _ _).alloc _)) (by first|omega|simp) 0 _ rfl w.heap.size 0 0 2 (by simp) (by simp) (by simp)).mono ?_;rintro e x1 ⟨rfl,C⟩;have HC1:=Lib.hid C;clear C
 go_wp2_with fail
 refine (op3_chain (HC1.out.quiet ((Mod.refl _ _).alloc _)) (by simp[takeCode,giveCode,joinCode,awayCode,eachCode,turnGo,waitGo,turnCode] <;> omega) 7 _ rfl x1.heap.size 6 0 0 3 (by simp) (by simp) (by simp) (by simp)).mono ?_;rintro e x2 ⟨rfl,C⟩;have HC2:=Lib.hid C;clear C
 go_wp2_with fail
 refine (op0_chain HC2.out (by simp[takeCode,giveCode,joinCode,awayCode,eachCode,turnGo,waitGo,turnCode] <;> omega) 12 _ rfl).mono ?_;rintro e x3 ⟨rfl,C⟩;have HC3:=Lib.hid C;clear C;go_wp2
 go_end0
 exact ⟨rfl,by simpa[awayCode,List.append_assoc]using HC3.out⟩
theorem gjoin_chain(C:Chain w0 b 4 v0 l w)(M:MkAt w b br fe jo co s)(hlen:l.length≤900)(hn:nameB s.data.toList=true)(hs:s.size≤4) :
  Calls Tryz.prog 96 #[.pointer (some ⟨b,0,none⟩)] w fun e w'=>e=.returned (.tuple #[])∧Chain w0 b 4 v0 (l++joinCode s) w':=by
 obtain ⟨v1,C1,hv1,-,hk⟩:=C.re (Mod.refl noF w);have HM:=Lib.hid M;have HC:=Lib.hid C1;have Hk:=Lib.hid hk;have Hn:=Lib.hid hn;clear C C1 M hk hv1 hn
 go_enter Tryz.func96,Tryz.ntmps96
 go_wp2;refine wp_region_held_drew (S:=fun W=>W.cell? ⟨b,5,none⟩=some (.string s)) (by kernel_rfl) ((Mod.refl noF _).drew.cell (HC.out.mk HM.out).c5 (fun e=>e)) (fun hHeld=>?_)
 iterate 18
  first|refine tk 0 (by decide +kernel) ?_|refine tk 1 (by decide +kernel) ?_|refine tk 2 (by decide +kernel) ?_|refine tk 5 (by decide +kernel) ?_|refine tk 6 (by decide +kernel) ?_|refine tk 7 (by decide +kernel) ?_|refine tk 8 (by decide +kernel) ?_|refine tk 9 (by decide +kernel) ?_|refine tk 12 (by decide +kernel) ?_|refine tk 13 (by decide +kernel) ?_|refine tk 14 (by decide +kernel) ?_|refine tk 15 (by decide +kernel) ?_|refine tk 16 (by decide +kernel) ?_|refine tk 18 (by decide +kernel) ?_|refine tk 19 (by decide +kernel) ?_|refine tk 20 (by decide +kernel) ?_|refine tk 21 (by decide +kernel) ?_|refine tk 22 (by decide +kernel) ?_
  apply Exists.intro;apply And.intro;(rw[List.getElem?_toArray];rfl);apply Exists.intro;refine ⟨by assumption,fun _ _ _ h=>h,?_,?_⟩
  ·refine Or.inl ⟨by rfl,?_⟩;intro w hSw;(try dsimp only at hSw);go_simp;(try rw[if_neg (by omega)]);try with_reducible rfl
  try simp only[Act.put,List.setIfInBounds_toArray,List.set_cons_zero,List.set_cons_succ]
 refine em_spine (items:=[⟨some (3,5),4,6⟩,⟨some (10,12),11,13⟩,⟨none,17,19⟩,⟨none,23,25⟩]) (E:=[⟨6,[0,6,2],[],0,0⟩,⟨14,[0],s.data.toList++[46,106],1,11⟩,⟨16,[],s.data.toList++[46,107],1,18⟩,⟨17,[],s.data.toList++[46,106],2,24⟩]) (r0:=4) (by kernel_rfl) (by kernel_rfl) (by kernel_rfl) (by rfl) ?lb1 (by rfl) (by rfl) ?len1 (fun w' l' C=>(C.mk HM.out).c5) (HC.out.quiet (Mod.refl _ _).drew) (by kernel_rfl) ?_
 case lb1=>(intro e he hk;simp only[List.mem_cons,List.not_mem_nil,or_false]at he;rcases he with rfl|rfl|rfl|rfl <;> (first|exact absurd rfl hk|exact (congrArg Value.string (bytes_cat s [46,106])).symm|exact (congrArg Value.string (bytes_cat s [46,107])).symm))
 case len1=>(first|(simp[takeCode,giveCode,joinCode,awayCode,eachCode,turnGo,waitGo,turnCode] <;> omega)|(simp <;> omega))
 intro U x1 C hU;have u6:U 6=_:=hU 0 _ rfl;have u13:U 13=_:=hU 1 _ rfl;have u19:U 19=_:=hU 2 _ rfl;have u25:U 25=_:=hU 3 _ rfl
 simp only[spTmps,SpI.tmps,List.flatMap_cons,List.flatMap_nil,Option.map_some,Option.map_none,Option.toList_some,Option.toList_none,List.cons_append,List.nil_append,List.append_nil,patch,List.foldl_cons,List.foldl_nil,Act.put,List.setIfInBounds_toArray,List.set_cons_zero,List.set_cons_succ,u6,u13,u19,u25]
 generalize U 5=s5 at *;generalize U 12=s12 at *;clear u6 u13 u19 u25 hU hHeld;simp only[List.map_cons,List.map_nil,EmC.ins,List.getD_cons_zero,List.getD_cons_succ,List.getD_nil]at C;have HC1:=Lib.hid C;clear C;have h5:=(HC1.out.mk HM.out).c5
 go_wp2_with fail
 clear h5;have hg:=gtake_chain HC1.out (HC1.out.mk HM.out) (by simp[takeCode,giveCode,joinCode,awayCode,eachCode,turnGo,waitGo,turnCode] <;> omega) Hn.out hs;refine hg.mono ?_;rintro e x2 ⟨rfl,C⟩;have HC2:=Lib.hid C;clear C hg;have h5:=(HC2.out.mk HM.out).c5
 go_wp2_with fail
 refine (op3_chain (HC2.out.quiet ((Mod.refl _ _).alloc _)) (by simp[takeCode,giveCode,joinCode,awayCode,eachCode,turnGo,waitGo,turnCode] <;> omega) 6 _ rfl x2.heap.size 0 7 2 3 (by simp) (by simp) (by simp) (by simp)).mono ?_;clear h5;rintro e x3 ⟨rfl,C⟩;have HC3:=Lib.hid C;clear C
 have h5:=(HC3.out.mk HM.out).c5
 go_wp2_with fail
 refine (op3_chain (HC3.out.quiet ((Mod.refl _ _).alloc _)) (by simp[takeCode,giveCode,joinCode,awayCode,eachCode,turnGo,waitGo,turnCode] <;> omega) 7 _ rfl x3.heap.size 6 0 1 3 (by simp) (by simp) (by simp) (by simp)).mono ?_;clear h5;rintro e x4 ⟨rfl,C⟩;have HC4:=Lib.hid C;clear C
 have h5:=(HC4.out.mk HM.out).c5
 go_wp2_with fail
 refine (op3_chain (HC4.out.quiet ((Mod.refl _ _).alloc _)) (by simp[takeCode,giveCode,joinCode,awayCode,eachCode,turnGo,waitGo,turnCode] <;> omega) 7 _ rfl x4.heap.size 7 6 2 3 (by simp) (by simp) (by simp) (by simp)).mono ?_;clear h5;rintro e x5 ⟨rfl,C⟩;have HC5:=Lib.hid C;clear C
 have h5:=(HC5.out.mk HM.out).c5
 go_wp2_with fail
 refine (op2_chain (HC5.out.quiet ((Mod.refl _ _).alloc _)) (by simp[takeCode,giveCode,joinCode,awayCode,eachCode,turnGo,waitGo,turnCode] <;> omega) 0 _ rfl x5.heap.size 0 1 2 (by simp) (by simp) (by simp)).mono ?_;clear h5;rintro e x6 ⟨rfl,C⟩;have HC6:=Lib.hid C;clear C
 have h5:=(HC6.out.mk HM.out).c5
 go_wp2_with fail
 refine (op3_chain (HC6.out.quiet ((Mod.refl _ _).alloc _)) (by simp[takeCode,giveCode,joinCode,awayCode,eachCode,turnGo,waitGo,turnCode] <;> omega) 7 _ rfl x6.heap.size 6 0 2 3 (by simp) (by simp) (by simp) (by simp)).mono ?_;clear h5;rintro e x7 ⟨rfl,C⟩;have HC7:=Lib.hid C;clear C
 have h5:=(HC7.out.mk HM.out).c5
 go_wp2_with fail
 clear h5;have hg:=ggive_chain HC7.out (HC7.out.mk HM.out) (by simp[takeCode,giveCode,joinCode,awayCode,eachCode,turnGo,waitGo,turnCode] <;> omega) Hn.out hs;refine hg.mono ?_;rintro e x8 ⟨rfl,C⟩;have HC8:=Lib.hid C;clear C hg;go_wp2
 refine wp_region_held_drew (S:=fun W=>W.cell? ⟨b,5,none⟩=some (.string s)) (by kernel_rfl) ((Mod.refl noF _).drew.cell (HC8.out.mk HM.out).c5 (fun e=>e)) (fun hHeld=>?_)
 iterate 8
  first|refine tk 0 (by decide +kernel) ?_|refine tk 1 (by decide +kernel) ?_|refine tk 2 (by decide +kernel) ?_|refine tk 3 (by decide +kernel) ?_|refine tk 4 (by decide +kernel) ?_|refine tk 5 (by decide +kernel) ?_|refine tk 6 (by decide +kernel) ?_|refine tk 7 (by decide +kernel) ?_
  apply Exists.intro;apply And.intro;(rw[List.getElem?_toArray];rfl);apply Exists.intro;refine ⟨by assumption,fun _ _ _ h=>h,?_,?_⟩
  ·refine Or.inl ⟨by rfl,?_⟩;intro w hSw;(try dsimp only at hSw);go_simp;(try rw[if_neg (by omega)]);try with_reducible rfl
  try simp only[Act.put,List.setIfInBounds_toArray,List.set_cons_zero,List.set_cons_succ]
 refine em_spine (items:=[⟨none,8,51⟩]) (E:=[⟨17,[],s.data.toList++[46,107],2,50⟩]) (r0:=45) (by kernel_rfl) (by kernel_rfl) (by kernel_rfl) (by rfl) ?lb9 (by rfl) (by rfl) ?len9 (fun w' l' C=>(C.mk HM.out).c5) (HC8.out.quiet (Mod.refl _ _).drew) (by kernel_rfl) ?_
 case lb9=>(intro e he hk;simp only[List.mem_cons,List.not_mem_nil,or_false]at he;rcases he with rfl <;> (first|exact absurd rfl hk|exact (congrArg Value.string (bytes_cat s [46,107])).symm))
 case len9=>(first|(simp[takeCode,giveCode,joinCode,awayCode,eachCode,turnGo,waitGo,turnCode] <;> omega)|(simp <;> omega))
 intro U x9 C hU;have u51:U 51=_:=hU 0 _ rfl
 simp only[spTmps,SpI.tmps,List.flatMap_cons,List.flatMap_nil,Option.map_some,Option.map_none,Option.toList_some,Option.toList_none,List.cons_append,List.nil_append,List.append_nil,patch,List.foldl_cons,List.foldl_nil,Act.put,List.setIfInBounds_toArray,List.set_cons_zero,List.set_cons_succ,u51]
 clear u51 hU hHeld;simp only[List.map_cons,List.map_nil,EmC.ins,List.getD_cons_zero,List.getD_cons_succ,List.getD_nil]at C;have HC9:=Lib.hid C;clear C;go_wp2
 go_end0
 exact ⟨rfl,Hk.out _ _ (by simpa[joinCode,List.append_assoc]using HC9.out)⟩
theorem turnGo_chain{q:ByteArray}{cm cp:Nat}(C:Chain w0 b 4 v0 l w)(Km:Cap w b cm (.pointer (some ⟨b,0,none⟩)))(Kp:Cap w b cp (.string q))(hq100:q.size≤100)(hlen:l.length≤900) :
  Calls Tryz.prog 122 #[.pointer (some ⟨cm,0,none⟩),.pointer (some ⟨cp,0,none⟩)] w fun e w'=>e=.returned (.tuple #[])∧Chain w0 b 4 v0 (l++turnGo q) w':=by
 obtain ⟨v1,C1,hv1,-,hk⟩:=C.re (Mod.refl noF w);have HKm:=Lib.hid Km;have HKp:=Lib.hid Kp;have HC:=Lib.hid C1;have Hv:=Lib.hid hv1;have Hk:=Lib.hid hk;clear C C1 hk hv1 Km Kp
 go_enter Tryz.func122,Tryz.ntmps122
 go_wp2
 refine wp_region_held_drew (S:=fun W=>W.cell? ⟨cm,0,none⟩=some (.pointer (some ⟨b,0,none⟩))∧W.cell? ⟨cp,0,none⟩=some (.string q)) (by kernel_rfl) ⟨(Mod.refl noF _).drew.cell (HKm.out.next Hv.out HC.out).cell (fun e=>e),(Mod.refl noF _).drew.cell (HKp.out.next Hv.out HC.out).cell (fun e=>e)⟩ (fun hHeld=>?_)
 iterate 5
  first|refine tk 0 (by decide +kernel) ?_|refine tk 1 (by decide +kernel) ?_|refine tk 2 (by decide +kernel) ?_|refine tk 7 (by decide +kernel) ?_|refine tk 8 (by decide +kernel) ?_
  apply Exists.intro;apply And.intro;(rw[List.getElem?_toArray];rfl);apply Exists.intro;refine ⟨by assumption,fun _ _ _ h=>h,?_,?_⟩
  ·refine Or.inl ⟨by rfl,?_⟩;intro w hSw;(try dsimp only at hSw);go_simp;(try rw[if_neg (by omega)]);try with_reducible rfl
  try simp only[Act.put,List.setIfInBounds_toArray,List.set_cons_zero,List.set_cons_succ]
 refine em_spine (items:=[⟨some (3,5),4,6⟩,⟨some (5,7),6,8⟩,⟨some (9,11),10,12⟩]) (E:=[⟨0,[1,255],[],0,0⟩,⟨4,[1,0,1],[],0,0⟩,⟨14,[1],q.data.toList++[110],1,10⟩]) (r0:=4) (by kernel_rfl) (by kernel_rfl) (by kernel_rfl) (by rfl) ?lb1 (by rfl) (by rfl) ?len1 (fun w' l' C=>⟨(HKm.out.next Hv.out C).cell,(HKp.out.next Hv.out C).cell⟩) (HC.out.quiet (Mod.refl _ _).drew) (by kernel_rfl) ?_
 case lb1=>(intro e he hk;simp only[List.mem_cons,List.not_mem_nil,or_false]at he;rcases he with rfl|rfl|rfl <;> (first|exact absurd rfl hk|exact (congrArg Value.string (bytes_cat q [110])).symm))
 case len1=>(first|(simp[takeCode,giveCode,joinCode,awayCode,eachCode,turnGo,waitGo,turnCode] <;> omega)|(simp <;> omega))
 intro U x1 C hU;have u6:U 6=_:=hU 0 _ rfl;have u8:U 8=_:=hU 1 _ rfl;have u12:U 12=_:=hU 2 _ rfl
 simp only[spTmps,SpI.tmps,List.flatMap_cons,List.flatMap_nil,Option.map_some,Option.map_none,Option.toList_some,Option.toList_none,List.cons_append,List.nil_append,List.append_nil,patch,List.foldl_cons,List.foldl_nil,Act.put,List.setIfInBounds_toArray,List.set_cons_zero,List.set_cons_succ,u6,u8,u12]
 generalize U 5=s5 at *;generalize U 7=s7 at *;generalize U 11=s11 at *;clear u6 u8 u12 hU hHeld;simp only[List.map_cons,List.map_nil,EmC.ins,List.getD_cons_zero,List.getD_cons_succ,List.getD_nil]at C;have HC1:=Lib.hid C;clear C;go_wp2
 refine wp_region_held_drew (S:=fun W=>W.cell? ⟨cm,0,none⟩=some (.pointer (some ⟨b,0,none⟩))∧W.cell? ⟨cp,0,none⟩=some (.string q)) (by kernel_rfl) ⟨(Mod.refl noF _).drew.cell (HKm.out.next Hv.out HC1.out).cell (fun e=>e),(Mod.refl noF _).drew.cell (HKp.out.next Hv.out HC1.out).cell (fun e=>e)⟩ (fun hHeld=>?_)
 iterate 5
  first|refine tk 0 (by decide +kernel) ?_|refine tk 1 (by decide +kernel) ?_|refine tk 2 (by decide +kernel) ?_|refine tk 11 (by decide +kernel) ?_|refine tk 12 (by decide +kernel) ?_
  apply Exists.intro;apply And.intro;(rw[List.getElem?_toArray];rfl);apply Exists.intro;refine ⟨by assumption,fun _ _ _ h=>h,?_,?_⟩
  ·refine Or.inl ⟨by rfl,?_⟩;intro w hSw;(try dsimp only at hSw);go_simp;(try rw[if_neg (by omega)]);try with_reducible rfl
  try simp only[Act.put,List.setIfInBounds_toArray,List.set_cons_zero,List.set_cons_succ]
 refine em_spine (items:=[⟨some (3,16),4,17⟩,⟨some (5,18),6,19⟩,⟨some (7,20),8,21⟩,⟨some (9,22),10,23⟩,⟨some (13,26),14,27⟩]) (E:=[⟨6,[1,7,0],[],0,0⟩,⟨5,[1,0,1],[],0,0⟩,⟨0,[0,256],[],0,0⟩,⟨4,[1,1,0],[],0,0⟩,⟨14,[1],q.data.toList++[110],1,25⟩]) (r0:=15) (by kernel_rfl) (by kernel_rfl) (by kernel_rfl) (by rfl) ?lb2 (by rfl) (by rfl) ?len2 (fun w' l' C=>⟨(HKm.out.next Hv.out C).cell,(HKp.out.next Hv.out C).cell⟩) (HC1.out.quiet (Mod.refl _ _).drew) (by kernel_rfl) ?_
 case lb2=>(intro e he hk;simp only[List.mem_cons,List.not_mem_nil,or_false]at he;rcases he with rfl|rfl|rfl|rfl|rfl <;> (first|exact absurd rfl hk|exact (congrArg Value.string (bytes_cat q [110])).symm))
 case len2=>(first|(simp[takeCode,giveCode,joinCode,awayCode,eachCode,turnGo,waitGo,turnCode] <;> omega)|(simp <;> omega))
 intro U x2 C hU;have u17:U 17=_:=hU 0 _ rfl;have u19:U 19=_:=hU 1 _ rfl;have u21:U 21=_:=hU 2 _ rfl;have u23:U 23=_:=hU 3 _ rfl;have u27:U 27=_:=hU 4 _ rfl
 simp only[spTmps,SpI.tmps,List.flatMap_cons,List.flatMap_nil,Option.map_some,Option.map_none,Option.toList_some,Option.toList_none,List.cons_append,List.nil_append,List.append_nil,patch,List.foldl_cons,List.foldl_nil,Act.put,List.setIfInBounds_toArray,List.set_cons_zero,List.set_cons_succ,u17,u19,u21,u23,u27]
 generalize U 16=s16 at *;generalize U 18=s18 at *;generalize U 20=s20 at *;generalize U 22=s22 at *;generalize U 26=s26 at *;clear u17 u19 u21 u23 u27 hU hHeld;simp only[List.map_cons,List.map_nil,EmC.ins,List.getD_cons_zero,List.getD_cons_succ,List.getD_nil]at C;have HC2:=Lib.hid C;clear C;go_wp2
 go_end0
 exact ⟨rfl,Hk.out _ _ (by simpa[turnGo,List.append_assoc]using HC2.out)⟩
theorem waitGo_chain{q:ByteArray}{cm cp:Nat}(C:Chain w0 b 4 v0 l w)(Km:Cap w b cm (.pointer (some ⟨b,0,none⟩)))(Kp:Cap w b cp (.string q))(hq100:q.size≤100)(hlen:l.length≤900) :
  Calls Tryz.prog 112 #[.pointer (some ⟨cm,0,none⟩),.pointer (some ⟨cp,0,none⟩)] w fun e w'=>e=.returned (.tuple #[])∧Chain w0 b 4 v0 (l++waitGo q) w':=by
 obtain ⟨v1,C1,hv1,-,hk⟩:=C.re (Mod.refl noF w);have HKm:=Lib.hid Km;have HKp:=Lib.hid Kp;have HC:=Lib.hid C1;have Hv:=Lib.hid hv1;have Hk:=Lib.hid hk;clear C C1 hk hv1 Km Kp
 go_enter Tryz.func112,Tryz.ntmps112
 go_wp2
 refine wp_region_held_drew (S:=fun W=>W.cell? ⟨cm,0,none⟩=some (.pointer (some ⟨b,0,none⟩))∧W.cell? ⟨cp,0,none⟩=some (.string q)) (by kernel_rfl) ⟨(Mod.refl noF _).drew.cell (HKm.out.next Hv.out HC.out).cell (fun e=>e),(Mod.refl noF _).drew.cell (HKp.out.next Hv.out HC.out).cell (fun e=>e)⟩ (fun hHeld=>?_)
 iterate 7
  first|refine tk 0 (by decide +kernel) ?_|refine tk 1 (by decide +kernel) ?_|refine tk 2 (by decide +kernel) ?_|refine tk 3 (by decide +kernel) ?_|refine tk 4 (by decide +kernel) ?_|refine tk 9 (by decide +kernel) ?_|refine tk 10 (by decide +kernel) ?_
  apply Exists.intro;apply And.intro;(rw[List.getElem?_toArray];rfl);apply Exists.intro;refine ⟨by assumption,fun _ _ _ h=>h,?_,?_⟩
  ·refine Or.inl ⟨by rfl,?_⟩;intro w hSw;(try dsimp only at hSw);go_simp;(try rw[if_neg (by omega)]);try with_reducible rfl
  try simp only[Act.put,List.setIfInBounds_toArray,List.set_cons_zero,List.set_cons_succ]
 refine em_spine (items:=[⟨some (5,7),6,8⟩,⟨some (7,9),8,10⟩,⟨some (11,13),12,14⟩]) (E:=[⟨14,[0],q.data.toList++[46,120,110],1,6⟩,⟨6,[1,7,0],[],0,0⟩,⟨15,[0,1],q.data.toList++[46,120,110],1,12⟩]) (r0:=4) (by kernel_rfl) (by kernel_rfl) (by kernel_rfl) (by rfl) ?lb1 (by rfl) (by rfl) ?len1 (fun w' l' C=>⟨(HKm.out.next Hv.out C).cell,(HKp.out.next Hv.out C).cell⟩) (HC.out.quiet (Mod.refl _ _).drew) (by kernel_rfl) ?_
 case lb1=>(intro e he hk;simp only[List.mem_cons,List.not_mem_nil,or_false]at he;rcases he with rfl|rfl|rfl <;> (first|exact absurd rfl hk|exact (congrArg Value.string (bytes_cat q [46,120,110])).symm))
 case len1=>(first|(simp[takeCode,giveCode,joinCode,awayCode,eachCode,turnGo,waitGo,turnCode] <;> omega)|(simp <;> omega))
 intro U x1 C hU;have u8:U 8=_:=hU 0 _ rfl;have u10:U 10=_:=hU 1 _ rfl;have u14:U 14=_:=hU 2 _ rfl
 simp only[spTmps,SpI.tmps,List.flatMap_cons,List.flatMap_nil,Option.map_some,Option.map_none,Option.toList_some,Option.toList_none,List.cons_append,List.nil_append,List.append_nil,patch,List.foldl_cons,List.foldl_nil,Act.put,List.setIfInBounds_toArray,List.set_cons_zero,List.set_cons_succ,u8,u10,u14]
 generalize U 7=s7 at *;generalize U 9=s9 at *;generalize U 13=s13 at *;clear u8 u10 u14 hU hHeld;simp only[List.map_cons,List.map_nil,EmC.ins,List.getD_cons_zero,List.getD_cons_succ,List.getD_nil]at C;have HC1:=Lib.hid C;clear C;go_wp2
 go_end0
 exact ⟨rfl,Hk.out _ _ (by simpa[waitGo,List.append_assoc]using HC1.out)⟩
theorem eachTurn_chain{q:ByteArray}{cm cp:Nat}(p:ByteArray)(hp100:p.size≤100)(C:Chain w0 b 4 v0 l w)(Km:Cap w b cm (.pointer (some ⟨b,0,none⟩)))(Kp:Cap w b cp (.string q))(hq100:q.size≤100)(hlen:l.length≤800) :
  Calls Tryz.prog 111 #[.pointer (some ⟨b,0,none⟩),.string p,.func (.func 122) #[] #[.pointer (some ⟨cm,0,none⟩),.pointer (some ⟨cp,0,none⟩)]] w fun e w'=>e=.returned (.tuple #[])∧Chain w0 b 4 v0 (l++eachCode (turnGo q) p) w':=by
 obtain ⟨v1,C1,hv1,-,hk⟩:=C.re (Mod.refl noF w);have HKm:=Lib.hid Km;have HKp:=Lib.hid Kp;have HC:=Lib.hid C1;have Hv:=Lib.hid hv1;have Hk:=Lib.hid hk;clear C C1 hk hv1 Km Kp
 go_enter Tryz.func111,Tryz.ntmps111
 go_wp2_with fail
 refine (op3_chain (HC.out.quiet ((Mod.refl _ _).alloc _)) (by first|omega|simp) 6 _ rfl w.heap.size 2 7 2 3 (by simp) (by simp) (by simp) (by simp)).mono ?_;rintro e x1 ⟨rfl,C⟩;have HC1:=Lib.hid C;clear C
 go_wp2_with fail
 refine (label_chain HC1.out (by simp[takeCode,giveCode,joinCode,awayCode,eachCode,turnGo,waitGo,turnCode] <;> omega) (p.data.toList++[108]) _ (bytes_cat p _)).mono ?_;rintro e x2 ⟨rfl,C⟩;have HC2:=Lib.hid C;clear C
 go_wp2_with fail
 refine (to1_chain (HC2.out.quiet ((Mod.refl _ _).alloc _)) (by simp[takeCode,giveCode,joinCode,awayCode,eachCode,turnGo,waitGo,turnCode] <;> omega) 14 _ rfl (p.data.toList++[111]) _ (bytes_cat p _) x2.heap.size 2 1 (by simp) (by simp)).mono ?_;rintro e x3 ⟨rfl,C⟩;have HC3:=Lib.hid C;clear C
 go_wp2_with fail
 refine (label_chain HC3.out (by simp[takeCode,giveCode,joinCode,awayCode,eachCode,turnGo,waitGo,turnCode] <;> omega) (p.data.toList++[115]) _ (bytes_cat p _)).mono ?_;rintro e x4 ⟨rfl,C⟩;have HC4:=Lib.hid C;clear C
 go_wp2_with fail
 refine (op3_chain (HC4.out.quiet ((Mod.refl _ _).alloc _)) (by simp[takeCode,giveCode,joinCode,awayCode,eachCode,turnGo,waitGo,turnCode] <;> omega) 6 _ rfl x4.heap.size 0 2 0 3 (by simp) (by simp) (by simp) (by simp)).mono ?_;rintro e x5 ⟨rfl,C⟩;have HC5:=Lib.hid C;clear C
 go_wp2_with fail
 have hg:=turnGo_chain HC5.out (HKm.out.next Hv.out HC5.out) (HKp.out.next Hv.out HC5.out) hq100 (by simp[takeCode,giveCode,joinCode,awayCode,eachCode,turnGo,waitGo,turnCode] <;> omega);refine hg.mono ?_;rintro e x6 ⟨rfl,C⟩;have HC6:=Lib.hid C;clear C hg
 go_wp2_with fail
 refine (to0_chain HC6.out (by simp[takeCode,giveCode,joinCode,awayCode,eachCode,turnGo,waitGo,turnCode] <;> omega) 16 _ rfl (p.data.toList++[115]) _ (bytes_cat p _)).mono ?_;rintro e x7 ⟨rfl,C⟩;have HC7:=Lib.hid C;clear C
 go_wp2_with fail
 refine (label_chain HC7.out (by simp[takeCode,giveCode,joinCode,awayCode,eachCode,turnGo,waitGo,turnCode] <;> omega) (p.data.toList++[110]) _ (bytes_cat p _)).mono ?_;rintro e x8 ⟨rfl,C⟩;have HC8:=Lib.hid C;clear C
 go_wp2_with fail
 refine (op3_chain (HC8.out.quiet ((Mod.refl _ _).alloc _)) (by simp[takeCode,giveCode,joinCode,awayCode,eachCode,turnGo,waitGo,turnCode] <;> omega) 6 _ rfl x8.heap.size 2 2 1 3 (by simp) (by simp) (by simp) (by simp)).mono ?_;rintro e x9 ⟨rfl,C⟩;have HC9:=Lib.hid C;clear C
 go_wp2_with fail
 refine (to0_chain HC9.out (by simp[takeCode,giveCode,joinCode,awayCode,eachCode,turnGo,waitGo,turnCode] <;> omega) 16 _ rfl (p.data.toList++[108]) _ (bytes_cat p _)).mono ?_;rintro e x10 ⟨rfl,C⟩;have HC10:=Lib.hid C;clear C
 go_wp2_with fail
 refine (label_chain HC10.out (by simp[takeCode,giveCode,joinCode,awayCode,eachCode,turnGo,waitGo,turnCode] <;> omega) (p.data.toList++[111]) _ (bytes_cat p _)).mono ?_;rintro e x11 ⟨rfl,C⟩;have HC11:=Lib.hid C;clear C;go_wp2
 go_end0
 exact ⟨rfl,Hk.out _ _ (by simpa[eachCode,List.append_assoc]using HC11.out)⟩
theorem eachWait_chain{q:ByteArray}{cm cp:Nat}(p:ByteArray)(hp100:p.size≤100)(C:Chain w0 b 4 v0 l w)(Km:Cap w b cm (.pointer (some ⟨b,0,none⟩)))(Kp:Cap w b cp (.string q))(hq100:q.size≤100)(hlen:l.length≤800) :
  Calls Tryz.prog 111 #[.pointer (some ⟨b,0,none⟩),.string p,.func (.func 112) #[] #[.pointer (some ⟨cm,0,none⟩),.pointer (some ⟨cp,0,none⟩)]] w fun e w'=>e=.returned (.tuple #[])∧Chain w0 b 4 v0 (l++eachCode (waitGo q) p) w':=by
 obtain ⟨v1,C1,hv1,-,hk⟩:=C.re (Mod.refl noF w);have HKm:=Lib.hid Km;have HKp:=Lib.hid Kp;have HC:=Lib.hid C1;have Hv:=Lib.hid hv1;have Hk:=Lib.hid hk;clear C C1 hk hv1 Km Kp
 go_enter Tryz.func111,Tryz.ntmps111
 go_wp2_with fail
 refine (op3_chain (HC.out.quiet ((Mod.refl _ _).alloc _)) (by first|omega|simp) 6 _ rfl w.heap.size 2 7 2 3 (by simp) (by simp) (by simp) (by simp)).mono ?_;rintro e x1 ⟨rfl,C⟩;have HC1:=Lib.hid C;clear C
 go_wp2_with fail
 refine (label_chain HC1.out (by simp[takeCode,giveCode,joinCode,awayCode,eachCode,turnGo,waitGo,turnCode] <;> omega) (p.data.toList++[108]) _ (bytes_cat p _)).mono ?_;rintro e x2 ⟨rfl,C⟩;have HC2:=Lib.hid C;clear C
 go_wp2_with fail
 refine (to1_chain (HC2.out.quiet ((Mod.refl _ _).alloc _)) (by simp[takeCode,giveCode,joinCode,awayCode,eachCode,turnGo,waitGo,turnCode] <;> omega) 14 _ rfl (p.data.toList++[111]) _ (bytes_cat p _) x2.heap.size 2 1 (by simp) (by simp)).mono ?_;rintro e x3 ⟨rfl,C⟩;have HC3:=Lib.hid C;clear C
 go_wp2_with fail
 refine (label_chain HC3.out (by simp[takeCode,giveCode,joinCode,awayCode,eachCode,turnGo,waitGo,turnCode] <;> omega) (p.data.toList++[115]) _ (bytes_cat p _)).mono ?_;rintro e x4 ⟨rfl,C⟩;have HC4:=Lib.hid C;clear C
 go_wp2_with fail
 refine (op3_chain (HC4.out.quiet ((Mod.refl _ _).alloc _)) (by simp[takeCode,giveCode,joinCode,awayCode,eachCode,turnGo,waitGo,turnCode] <;> omega) 6 _ rfl x4.heap.size 0 2 0 3 (by simp) (by simp) (by simp) (by simp)).mono ?_;rintro e x5 ⟨rfl,C⟩;have HC5:=Lib.hid C;clear C
 go_wp2_with fail
 have hg:=waitGo_chain HC5.out (HKm.out.next Hv.out HC5.out) (HKp.out.next Hv.out HC5.out) hq100 (by simp[takeCode,giveCode,joinCode,awayCode,eachCode,turnGo,waitGo,turnCode] <;> omega);refine hg.mono ?_;rintro e x6 ⟨rfl,C⟩;have HC6:=Lib.hid C;clear C hg
 go_wp2_with fail
 refine (to0_chain HC6.out (by simp[takeCode,giveCode,joinCode,awayCode,eachCode,turnGo,waitGo,turnCode] <;> omega) 16 _ rfl (p.data.toList++[115]) _ (bytes_cat p _)).mono ?_;rintro e x7 ⟨rfl,C⟩;have HC7:=Lib.hid C;clear C
 go_wp2_with fail
 refine (label_chain HC7.out (by simp[takeCode,giveCode,joinCode,awayCode,eachCode,turnGo,waitGo,turnCode] <;> omega) (p.data.toList++[110]) _ (bytes_cat p _)).mono ?_;rintro e x8 ⟨rfl,C⟩;have HC8:=Lib.hid C;clear C
 go_wp2_with fail
 refine (op3_chain (HC8.out.quiet ((Mod.refl _ _).alloc _)) (by simp[takeCode,giveCode,joinCode,awayCode,eachCode,turnGo,waitGo,turnCode] <;> omega) 6 _ rfl x8.heap.size 2 2 1 3 (by simp) (by simp) (by simp) (by simp)).mono ?_;rintro e x9 ⟨rfl,C⟩;have HC9:=Lib.hid C;clear C
 go_wp2_with fail
 refine (to0_chain HC9.out (by simp[takeCode,giveCode,joinCode,awayCode,eachCode,turnGo,waitGo,turnCode] <;> omega) 16 _ rfl (p.data.toList++[108]) _ (bytes_cat p _)).mono ?_;rintro e x10 ⟨rfl,C⟩;have HC10:=Lib.hid C;clear C
 go_wp2_with fail
 refine (label_chain HC10.out (by simp[takeCode,giveCode,joinCode,awayCode,eachCode,turnGo,waitGo,turnCode] <;> omega) (p.data.toList++[111]) _ (bytes_cat p _)).mono ?_;rintro e x11 ⟨rfl,C⟩;have HC11:=Lib.hid C;clear C;go_wp2
 go_end0
 exact ⟨rfl,Hk.out _ _ (by simpa[eachCode,List.append_assoc]using HC11.out)⟩
theorem gturn_chain(q:ByteArray)(hq100:q.size≤100)(n:Nat)(hbr:opStr n=br)(C:Chain w0 b 4 v0 l w)(M:MkAt w b br fe jo co s)(hlen:l.length≤700) :
  Calls Tryz.prog 109 #[.pointer (some ⟨b,0,none⟩),.string q] w fun e w'=>e=.returned (.tuple #[])∧Chain w0 b 4 v0 (l++turnCode n q) w':=by
 have hq:Mod noF w ((w.alloc (.cells #[.pointer (some ⟨b,0,none⟩)] 135)).alloc (.cells #[.string q] 9)):=((Mod.refl noF w).alloc _).alloc _;have HKm:=Lib.hid (C.cap (c:=w.heap.size) (u:=.pointer (some ⟨b,0,none⟩)) hq (by omega) (by simp;omega) (by simp))
 have HKp:=Lib.hid (C.cap (c:=w.heap.size+1) (u:=.string q) hq (by omega) (by simp) (by simp));have HM:=Lib.hid (M.quiet hq);obtain ⟨v1,C1,hv1,-,hk⟩:=C.re hq;have HC:=Lib.hid C1;have Hv:=Lib.hid hv1;have Hk:=Lib.hid hk;clear C C1 hk hv1 M hq
 go_enter Tryz.func109,Tryz.ntmps109
 go_wp2
 refine wp_region_held_drew (S:=fun W=>W.cell? ⟨w.heap.size,0,none⟩=some (.pointer (some ⟨b,0,none⟩))∧W.cell? ⟨b,0,none⟩=some (.string br)) (by kernel_rfl) ⟨(Mod.refl noF _).drew.cell (HKm.out.next Hv.out HC.out).cell (fun e=>e),(Mod.refl noF _).drew.cell (HC.out.mk HM.out).c0 (fun e=>e)⟩ (fun hHeld=>?_)
 iterate 8
  first|refine tk 0 (by decide +kernel) ?_|refine tk 1 (by decide +kernel) ?_|refine tk 2 (by decide +kernel) ?_|refine tk 11 (by decide +kernel) ?_|refine tk 12 (by decide +kernel) ?_|refine tk 13 (by decide +kernel) ?_|refine tk 14 (by decide +kernel) ?_|refine tk 15 (by decide +kernel) ?_
  apply Exists.intro;apply And.intro;(rw[List.getElem?_toArray];rfl);apply Exists.intro;refine ⟨by assumption,fun _ _ _ h=>h,?_,?_⟩
  ·refine Or.inl ⟨by rfl,?_⟩;intro w hSw;(try dsimp only at hSw);go_simp;(try rw[if_neg (by omega)]);try with_reducible rfl
  try simp only[Act.put,List.setIfInBounds_toArray,List.set_cons_zero,List.set_cons_succ]
 refine em_spine (items:=[⟨some (3,7),4,8⟩,⟨some (5,9),6,10⟩,⟨some (7,11),8,12⟩,⟨some (9,13),10,14⟩,⟨none,16,20⟩]) (E:=[⟨6,[0,7,0],[],0,0⟩,⟨0,[1,256],[],0,0⟩,⟨5,[0,0,1],[],0,0⟩,⟨7,[7,0,0],[],0,0⟩,⟨n,[],[],3,19⟩]) (r0:=6) (by kernel_rfl) (by kernel_rfl) (by kernel_rfl) (by rfl) ?lb1 (by rfl) (by rfl) ?len1 (fun w' l' C=>⟨(HKm.out.next Hv.out C).cell,(C.mk HM.out).c0⟩) (HC.out.quiet (Mod.refl _ _).drew) (by kernel_rfl) ?_
 case lb1=>(intro e he hk;simp only[List.mem_cons,List.not_mem_nil,or_false]at he;rcases he with rfl|rfl|rfl|rfl|rfl <;> (first|exact absurd rfl hk|exact congrArg Value.string (hbr.symm)))
 case len1=>(first|(simp[takeCode,giveCode,joinCode,awayCode,eachCode,turnGo,waitGo,turnCode] <;> omega)|(simp <;> omega))
 intro U x1 C hU;have u8:U 8=_:=hU 0 _ rfl;have u10:U 10=_:=hU 1 _ rfl;have u12:U 12=_:=hU 2 _ rfl;have u14:U 14=_:=hU 3 _ rfl;have u20:U 20=_:=hU 4 _ rfl
 simp only[spTmps,SpI.tmps,List.flatMap_cons,List.flatMap_nil,Option.map_some,Option.map_none,Option.toList_some,Option.toList_none,List.cons_append,List.nil_append,List.append_nil,patch,List.foldl_cons,List.foldl_nil,Act.put,List.setIfInBounds_toArray,List.set_cons_zero,List.set_cons_succ,u8,u10,u12,u14,u20]
 generalize U 7=s7 at *;generalize U 9=s9 at *;generalize U 11=s11 at *;generalize U 13=s13 at *;clear u8 u10 u12 u14 u20 hU hHeld;simp only[List.map_cons,List.map_nil,EmC.ins,List.getD_cons_zero,List.getD_cons_succ,List.getD_nil]at C;have HC1:=Lib.hid C;clear C
 have hm:=(HKm.out.next Hv.out HC1.out).cell;have hp:=(HKp.out.next Hv.out HC1.out).cell
 go_wp2_with fail
 clear hm hp;have hg:=eachTurn_chain q hq100 HC1.out (HKm.out.next Hv.out HC1.out) (HKp.out.next Hv.out HC1.out) hq100 (by simp[takeCode,giveCode,joinCode,awayCode,eachCode,turnGo,waitGo,turnCode] <;> omega);refine hg.mono ?_;rintro e x2 ⟨rfl,C⟩;have HC2:=Lib.hid C;clear C hg;go_wp2
 go_end0
 exact ⟨rfl,Hk.out _ _ (by simpa[turnCode,List.append_assoc]using HC2.out)⟩
end Go.Proofs.YtppihkneeolomaaGreatDoor
