/- Texts that belong together, joined. -/
import Derived.Test.YtppihkneeolomaaGreatDoorSSm2
import Derived.Test.YtppihkneeolomaaGreatDoorSSEmitOp
import Derived.BigRegion
import Derived.OwnWalk
import Derived.Outline
import Derived.Deep.RegionHeld3
import Derived.Great.BuildSlice
import Derived.Test.YtppihkneeolomaaGreatDoorProg
import Derived.WalkKit
import Derived.Lib.ItoaWalk
import Derived.Test.YtppihkneeolomaaGreatDoorSSm5
import Derived.Laws.Entries
import Derived.Test.YtppihkneeolomaaGreatDoorSSm3
import Derived.Test.YtppihkneeolomaaGreatDoorSSCodeFine
import Derived.Test.YtppihkneeolomaaGreatDoorSSInstrErr
import Derived.Lib.ItoaNum
import Derived.Shelf.Strconv.Itoa3
set_option linter.unusedVariables false
set_option linter.unusedSimpArgs false
set_option linter.unusedSectionVars false
set_option maxHeartbeats 4000000
set_option maxRecDepth 100000
namespace Go.Proofs.YtppihkneeolomaaGreatDoor
section
open Go.RowKit Qs Qh
theorem to0_any(w:World)(b o:Nat)(v:Value)(l:List Instr)(E:Emit insT w b o v l)(hlen:l.length≤1000000)(n:Nat)(s:ByteArray)(hs:opStr n=s)(to:List UInt8)(ls:ByteArray)(hls:(⟨to.toArray⟩:ByteArray)=ls) :
  Calls Tryz.prog 65 #[.pointer (some ⟨b,o,none⟩),.string ls,.string s,.slice none 0 0] w (Emitted w b o v (l++[⟨n,0,0,0,to⟩])):=by
 have HE:=Lib.hid E;have Hls:=Lib.hid hls;have Hs:=Lib.hid hs;have Hlt:=E.lt;clear E hls hs
 go_enter Tryz.func65,Tryz.ntmps65
 go_wp2_with fail
 refine (op0_any w b o v l HE.out hlen n s Hs.out).mono ?_;rintro e w1 ⟨rfl,v1,E1,G1⟩;obtain ⟨g,cp,rfl,hg,hc,hf⟩:=E1.row.last;have c4:=hc 4 _ rfl;have f4:=hf (l.length*5+4);have ec:=E1.cell;have hb1:=E1.lt;have HE1:=Lib.hid E1;have HG1:=Lib.hid G1;clear E1 G1 hc hf;go_wp2
 go_region
 all_goals go_wp2
 all_goals go_ret
 all_goals
  have:=both_drew Hlt (Emit.setTo to HG1.out Hlt HE1.out);rw[show sv to=.string ls from by unfold sv;rw[Hls.out]]at this;exact ⟨rfl,_,this⟩
theorem to1_any(w:World)(b o:Nat)(v:Value)(l:List Instr)(E:Emit insT w b o v l)(hlen:l.length≤1000000)(n:Nat)(s:ByteArray)(hs:opStr n=s)(to:List UInt8)(ls:ByteArray)(hls:(⟨to.toArray⟩:ByteArray)=ls)(nb:Nat)(x:Int)(c:Nat)(h0:w.cell? ⟨nb,0,none⟩=some (.int .i64 x))(hnb:nb<w.heap.size) :
  Calls Tryz.prog 65 #[.pointer (some ⟨b,o,none⟩),.string ls,.string s,.slice (some ⟨nb,0,none⟩) 1 c] w (Emitted w b o v (l++[⟨n,x,0,0,to⟩])):=by
 have HE:=Lib.hid E;have Hls:=Lib.hid hls;have Hs:=Lib.hid hs;have Hlt:=E.lt;clear E hls hs
 go_enter Tryz.func65,Tryz.ntmps65
 go_wp2_with fail
 refine (op1_any w b o v l HE.out hlen n s Hs.out nb x c h0 hnb).mono ?_;rintro e w1 ⟨rfl,v1,E1,G1⟩;obtain ⟨g,cp,rfl,hg,hc,hf⟩:=E1.row.last;have c4:=hc 4 _ rfl;have f4:=hf (l.length*5+4);have ec:=E1.cell;have hb1:=E1.lt;have HE1:=Lib.hid E1;have HG1:=Lib.hid G1;clear E1 G1 hc hf;go_wp2
 go_region
 all_goals go_wp2
 all_goals go_ret
 all_goals
  have:=both_drew Hlt (Emit.setTo to HG1.out Hlt HE1.out);rw[show sv to=.string ls from by unfold sv;rw[Hls.out]]at this;exact ⟨rfl,_,this⟩
theorem to2_any(w:World)(b o:Nat)(v:Value)(l:List Instr)(E:Emit insT w b o v l)(hlen:l.length≤1000000)(n:Nat)(s:ByteArray)(hs:opStr n=s)(to:List UInt8)(ls:ByteArray)(hls:(⟨to.toArray⟩:ByteArray)=ls)(nb:Nat)(x y:Int)(c:Nat)(h0:w.cell? ⟨nb,0,none⟩=some (.int .i64 x))(h1:w.cell? ⟨nb,1,none⟩=some (.int .i64 y))(hnb:nb<w.heap.size) :
  Calls Tryz.prog 65 #[.pointer (some ⟨b,o,none⟩),.string ls,.string s,.slice (some ⟨nb,0,none⟩) 2 c] w (Emitted w b o v (l++[⟨n,x,y,0,to⟩])):=by
 have HE:=Lib.hid E;have Hls:=Lib.hid hls;have Hs:=Lib.hid hs;have Hlt:=E.lt;clear E hls hs
 go_enter Tryz.func65,Tryz.ntmps65
 go_wp2_with fail
 refine (op2_any w b o v l HE.out hlen n s Hs.out nb x y c h0 h1 hnb).mono ?_;rintro e w1 ⟨rfl,v1,E1,G1⟩;obtain ⟨g,cp,rfl,hg,hc,hf⟩:=E1.row.last;have c4:=hc 4 _ rfl;have f4:=hf (l.length*5+4);have ec:=E1.cell;have hb1:=E1.lt;have HE1:=Lib.hid E1;have HG1:=Lib.hid G1;clear E1 G1 hc hf;go_wp2
 go_region
 all_goals go_wp2
 all_goals go_ret
 all_goals
  have:=both_drew Hlt (Emit.setTo to HG1.out Hlt HE1.out);rw[show sv to=.string ls from by unfold sv;rw[Hls.out]]at this;exact ⟨rfl,_,this⟩
theorem label_any(w:World)(b o:Nat)(v:Value)(l:List Instr)(E:Emit insT w b o v l)(hlen:l.length≤1000000)(to:List UInt8)(ls:ByteArray)(hls:(⟨to.toArray⟩:ByteArray)=ls) :
  Calls Tryz.prog 64 #[.pointer (some ⟨b,o,none⟩),.string ls] w (Emitted w b o v (l++[⟨17,0,0,0,to⟩])):=by
 have HE:=Lib.hid E;have Hls:=Lib.hid hls;clear E hls
 go_enter Tryz.func64,Tryz.ntmps64
 go_wp2_with fail
 refine (to0_any w b o v l HE.out hlen 17 _ rfl to ls Hls.out).mono ?_;rintro e w1 ⟨rfl,h⟩;have H:=Lib.hid h;clear h;go_wp2;go_ret;exact ⟨rfl,H.out⟩
end
section
open Go.RowKit Qs Qh
def Chain(w0:World)(b o:Nat)(v0:Value)(l:List Instr)(w:World):Prop:=b<w0.heap.size∧∃v,Emit insT w b o v l∧Grew w0 w b o v0 v
theorem Chain.quiet{w0 w w':World}{b o:Nat}{v0:Value}{l:List Instr}(h:Chain w0 b o v0 l w)(hq:Mod noF w w'):Chain w0 b o v0 l w':=by
 obtain ⟨hb,v,E,G⟩:=h;exact ⟨hb,v,E.quiet hq,G.quiet E.lt hq⟩
theorem Chain.start{w:World}{b o:Nat}{v:Value}{l:List Instr}(E:Emit insT w b o v l):Chain w b o v l w:=
 ⟨E.lt,v,E,⟨Mod.refl _ _,fun _ _ _ h=>h,fun _ h=>h,fun _ h=>.inl h⟩⟩
theorem Chain.next{w0 w w':World}{b o:Nat}{v0 v:Value}{l':List Instr}(hb:b<w0.heap.size)(G:Grew w0 w b o v0 v){e:Ending}(h:Emitted w b o v l' e w'):e=.returned (.pointer (some ⟨b,o,none⟩))∧Chain w0 b o v0 l' w':=by
 obtain ⟨he,v',E',G'⟩:=h;exact ⟨he,hb,v',E',Grew.trans hb G G'⟩
variable {w0 w:World}{b o:Nat}{v0:Value}{l:List Instr}
theorem op0_chain(C:Chain w0 b o v0 l w)(hlen:l.length≤1000000)(n:Nat)(s:ByteArray)(hs:opStr n=s) :
  Calls Tryz.prog 49 #[.pointer (some ⟨b,o,none⟩),.string s,.slice none 0 0] w fun e w'=>e=.returned (.pointer (some ⟨b,o,none⟩))∧Chain w0 b o v0 (l++[⟨n,0,0,0,[]⟩]) w':=by
 obtain ⟨hb,v,E,G⟩:=C;exact (op0_any w b o v l E hlen n s hs).mono fun e w' h=>Chain.next hb G h
theorem op1_chain(C:Chain w0 b o v0 l w)(hlen:l.length≤1000000)(n:Nat)(s:ByteArray)(hs:opStr n=s)(nb:Nat)(x:Int)(c:Nat)(h0:w.cell? ⟨nb,0,none⟩=some (.int .i64 x))(hnb:nb<w.heap.size) :
  Calls Tryz.prog 49 #[.pointer (some ⟨b,o,none⟩),.string s,.slice (some ⟨nb,0,none⟩) 1 c] w fun e w'=>e=.returned (.pointer (some ⟨b,o,none⟩))∧Chain w0 b o v0 (l++[⟨n,x,0,0,[]⟩]) w':=by
 obtain ⟨hb,v,E,G⟩:=C;exact (op1_any w b o v l E hlen n s hs nb x c h0 hnb).mono fun e w' h=>Chain.next hb G h
theorem op2_chain(C:Chain w0 b o v0 l w)(hlen:l.length≤1000000)(n:Nat)(s:ByteArray)(hs:opStr n=s)(nb:Nat)(x y:Int)(c:Nat)(h0:w.cell? ⟨nb,0,none⟩=some (.int .i64 x))(h1:w.cell? ⟨nb,1,none⟩=some (.int .i64 y))(hnb:nb<w.heap.size) :
  Calls Tryz.prog 49 #[.pointer (some ⟨b,o,none⟩),.string s,.slice (some ⟨nb,0,none⟩) 2 c] w fun e w'=>e=.returned (.pointer (some ⟨b,o,none⟩))∧Chain w0 b o v0 (l++[⟨n,x,y,0,[]⟩]) w':=by
 obtain ⟨hb,v,E,G⟩:=C;exact (op2_any w b o v l E hlen n s hs nb x y c h0 h1 hnb).mono fun e w' h=>Chain.next hb G h
theorem op3_chain(C:Chain w0 b o v0 l w)(hlen:l.length≤1000000)(n:Nat)(s:ByteArray)(hs:opStr n=s)(nb:Nat)(x y z:Int)(c:Nat)(h0:w.cell? ⟨nb,0,none⟩=some (.int .i64 x))(h1:w.cell? ⟨nb,1,none⟩=some (.int .i64 y))(h2:w.cell? ⟨nb,2,none⟩=some (.int .i64 z))(hnb:nb<w.heap.size) :
  Calls Tryz.prog 49 #[.pointer (some ⟨b,o,none⟩),.string s,.slice (some ⟨nb,0,none⟩) 3 c] w fun e w'=>e=.returned (.pointer (some ⟨b,o,none⟩))∧Chain w0 b o v0 (l++[⟨n,x,y,z,[]⟩]) w':=by
 obtain ⟨hb,v,E,G⟩:=C;exact (op3_any w b o v l E hlen n s hs nb x y z c h0 h1 h2 hnb).mono fun e w' h=>Chain.next hb G h
theorem to0_chain(C:Chain w0 b o v0 l w)(hlen:l.length≤1000000)(n:Nat)(s:ByteArray)(hs:opStr n=s)(to:List UInt8)(ls:ByteArray)(hls:(⟨to.toArray⟩:ByteArray)=ls) :
  Calls Tryz.prog 65 #[.pointer (some ⟨b,o,none⟩),.string ls,.string s,.slice none 0 0] w fun e w'=>e=.returned (.pointer (some ⟨b,o,none⟩))∧Chain w0 b o v0 (l++[⟨n,0,0,0,to⟩]) w':=by
 obtain ⟨hb,v,E,G⟩:=C;exact (to0_any w b o v l E hlen n s hs to ls hls).mono fun e w' h=>Chain.next hb G h
theorem to1_chain(C:Chain w0 b o v0 l w)(hlen:l.length≤1000000)(n:Nat)(s:ByteArray)(hs:opStr n=s)(to:List UInt8)(ls:ByteArray)(hls:(⟨to.toArray⟩:ByteArray)=ls)(nb:Nat)(x:Int)(c:Nat)(h0:w.cell? ⟨nb,0,none⟩=some (.int .i64 x))(hnb:nb<w.heap.size) :
  Calls Tryz.prog 65 #[.pointer (some ⟨b,o,none⟩),.string ls,.string s,.slice (some ⟨nb,0,none⟩) 1 c] w fun e w'=>e=.returned (.pointer (some ⟨b,o,none⟩))∧Chain w0 b o v0 (l++[⟨n,x,0,0,to⟩]) w':=by
 obtain ⟨hb,v,E,G⟩:=C;exact (to1_any w b o v l E hlen n s hs to ls hls nb x c h0 hnb).mono fun e w' h=>Chain.next hb G h
theorem to2_chain(C:Chain w0 b o v0 l w)(hlen:l.length≤1000000)(n:Nat)(s:ByteArray)(hs:opStr n=s)(to:List UInt8)(ls:ByteArray)(hls:(⟨to.toArray⟩:ByteArray)=ls)(nb:Nat)(x y:Int)(c:Nat)(h0:w.cell? ⟨nb,0,none⟩=some (.int .i64 x))(h1:w.cell? ⟨nb,1,none⟩=some (.int .i64 y))(hnb:nb<w.heap.size) :
  Calls Tryz.prog 65 #[.pointer (some ⟨b,o,none⟩),.string ls,.string s,.slice (some ⟨nb,0,none⟩) 2 c] w fun e w'=>e=.returned (.pointer (some ⟨b,o,none⟩))∧Chain w0 b o v0 (l++[⟨n,x,y,0,to⟩]) w':=by
 obtain ⟨hb,v,E,G⟩:=C;exact (to2_any w b o v l E hlen n s hs to ls hls nb x y c h0 h1 hnb).mono fun e w' h=>Chain.next hb G h
theorem label_chain(C:Chain w0 b o v0 l w)(hlen:l.length≤1000000)(to:List UInt8)(ls:ByteArray)(hls:(⟨to.toArray⟩:ByteArray)=ls) :
  Calls Tryz.prog 64 #[.pointer (some ⟨b,o,none⟩),.string ls] w fun e w'=>e=.returned (.pointer (some ⟨b,o,none⟩))∧Chain w0 b o v0 (l++[⟨17,0,0,0,to⟩]) w':=by
 obtain ⟨hb,v,E,G⟩:=C;exact (label_any w b o v l E hlen to ls hls).mono fun e w' h=>Chain.next hb G h
def Made(l:List Instr)(w:World)(v:Value)(w':World):Prop:=InsRow insT w' v l∧Below w.heap.size w w'∧∀g,v.ownBlock=some g→w.heap.size≤g
theorem Chain.made{v0:Value}{w1:World}(C:Chain w0 b o v0 l w1)(hv0:∀g,v0.ownBlock=some g→w.heap.size≤g)(hw:Mod noF w w0)(hb:w.heap.size≤b):∃v,w1.cell? ⟨b,o,none⟩=some v∧Made l w v w1:=by
 obtain ⟨hb0,v,E,G⟩:=C;obtain ⟨h1,h2⟩:=G.below hw.size hb hv0;exact ⟨v,E.cell,E.row,hw.toBelow.trans h1,h2⟩
end
section
open Go.RowKit Qs Qh
theorem InsRow.src{w:World}{v:Value}{l:List Instr}(h:InsRow insT w v l)(hl:0<l.length):∃g c,v=.slice (some ⟨g,0,none⟩) l.length c∧∀j u,(flat insV 0 l)[j]?=some u→w.cell? ((⟨g,0,none⟩:Addr).add j)=some u:=by
 rcases h.2 with ⟨rfl,h0⟩|⟨g,cap,cur,rfl,_,hg,_⟩
 ·omega
 ·exact ⟨g,cap,rfl,World.ownsRow.cells h (g:=g) rfl⟩
end
section
open Go.RowKit Qs Qh
theorem frozen_keep{F:Nat→Prop}{w w':World}{b o:Nat}(hM:Mod F w w')(hb:b<w.heap.size)(hF:¬F b)(h:w.frozen? ⟨b,o,none⟩=false):w'.frozen? ⟨b,o,none⟩=false:=by
 unfold World.frozen? at h ⊢;rw[hM.block b hb hF];exact h
theorem more_any(w:World)(b o:Nat)(v:Value)(l:List Instr)(E:Emit insT w b o v l)(hlen:l.length≤1000000)(x:List Instr)(g c:Nat)(hsrc:∀j u,(flat insV 0 x)[j]?=some u→w.cell? ((⟨g,0,none⟩:Addr).add j)=some u)(hx:x.length≤1000) :
  Calls Tryz.prog 74 #[.pointer (some ⟨b,o,none⟩),.slice (some ⟨g,0,none⟩) x.length c] w (Emitted w b o v (l++x)):=by
 have HE:=Lib.hid E;obtain ⟨ec,ef,er,en,el⟩:=E;obtain ⟨a,cp,rfl,hcp,hlm⟩:=er.slice;have Her:=Lib.hid er;have Hsrc:=Lib.hid hsrc;have hnb':¬((Value.slice a l.length cp).ownBlock=some b):=fun h=>en b h rfl;have Hnb:=Lib.hid hnb';have Hef:=Lib.hid ef;clear er en hnb' hsrc
 obtain ⟨i0,hi,hz0,hz1,hz2⟩:=info_parts insInfo
 have hbnd:l.length+x.length≤maxLen:=by unfold maxLen;omega
 have hbnd2:(l.length+x.length)*56≤140737488355328:=by omega
 go_enter Tryz.func74,Tryz.ntmps74
 go_wp2_with (at_builtin;refine wpList_append_mine _ rfl (.tmp 9) (.tmp 10) 71 rfl 143 i0 (.agg #[.string ⟨#[]⟩,.int .i64 0,.int .i64 0,.int .i64 0,.string ⟨#[]⟩]) 5 56 Tryz.underlying71 hi hz0 hz1 hz2 rfl (by decide) _ _ (flat insV 0 l) rfl Her.out ⟨g,0,none⟩ x.length c (flat insV 0 x) rfl (insV_len x 0) Hsrc.out (insV_one _ _) hbnd hbnd2 ?_;intro v2 w2 hown2 hgr2 hfr2 hz2';have hm2:Mod (fun k=>(Value.slice a l.length cp).ownBlock=some k) w w2:=(Mod.refl _ w).grown hgr2 (fun k hk _=>hk);have ec2:=hm2.cell ec Hnb.out;have ef2:=frozen_keep hm2 el Hnb.out Hef.out;have el2:b<w2.heap.size:=Nat.lt_of_lt_of_le el hm2.size;obtain ⟨xa,xb,xc,rfl⟩:=slice_of_own hown2;have Hap:=Lib.hid (HE.out.append hm2 (x:=x) hown2 (Nat.le_refl _) hfr2);clear hown2 hgr2 hfr2 hz2' hm2)
 go_ret;exact ⟨rfl,_,Hap.out⟩
variable {w0 w w1:World}{b o:Nat}{v0:Value}{l:List Instr}
theorem more_chain(C:Chain w0 b o v0 l w)(hlen:l.length≤1000000)(x:List Instr)(g c:Nat)(hsrc:∀j u,(flat insV 0 x)[j]?=some u→w.cell? ((⟨g,0,none⟩:Addr).add j)=some u)(hx:x.length≤1000) :
  Calls Tryz.prog 74 #[.pointer (some ⟨b,o,none⟩),.slice (some ⟨g,0,none⟩) x.length c] w fun e w'=>e=.returned (.pointer (some ⟨b,o,none⟩))∧Chain w0 b o v0 (l++x) w':=by
 obtain ⟨hb,v,E,G⟩:=C;exact (more_any w b o v l E hlen x g c hsrc hx).mono fun e w' h=>Chain.next hb G h
theorem Chain.lt(C:Chain w0 b o v0 l w):b<w.heap.size:=by obtain ⟨hb,v,E,G⟩:=C;exact E.lt
theorem Chain.re(C:Chain w0 b o v0 l w)(hq:Mod noF w w1):∃v,Chain w1 b o v l w1∧w1.cell? ⟨b,o,none⟩=some v∧(∀k,w.heap.size≤k→v.ownBlock≠some k)∧∀l' w',Chain w1 b o v l' w'→Chain w0 b o v0 l' w':=by
 obtain ⟨hb,v,E,G⟩:=C;have E1:=E.quiet hq;have G1:=G.quiet E.lt hq;refine ⟨v,Chain.start E1,E1.cell,fun k hk e=>?_,fun l' w' h=>?_⟩
 ·have:=E.row.lt e;omega
 ·obtain ⟨_,v',E',G'⟩:=h;exact ⟨hb,v',E',G1.trans hb G'⟩
theorem cell_same{w w1:World}{b:Nat}(h:Mod noF w w1)(hb:b<w.heap.size)(i:Nat):w1.cell? ⟨b,i,none⟩=w.cell? ⟨b,i,none⟩:=by
 have:=h.block b hb (fun e=>e);unfold World.cell?;simp only;rw[←this]
end
section
open Go.RowKit Qs Qh
structure SpI where
 s:Option (Nat × Tmp)
 c:Nat
 q:Tmp
def SpI.idx(x:SpI):List Nat:=(x.s.map (·.1)).toList++[x.c]
def SpI.tmps(x:SpI):List Tmp:=(x.s.map (·.2)).toList++[x.q]
def spIdx(items:List SpI):List Nat:=items.flatMap SpI.idx
def spTmps(items:List SpI):List Tmp:=items.flatMap SpI.tmps
def opIs(ops:Array Oper)(i:Nat)(d:Tmp):Bool:=match ops[i]? with|some o=>o.dst==some d&&o.guard.isNone|none=>false
def waits(ops:Array Oper)(i on:Nat):Bool:=match ops[i]? with|some o=>o.after.any (fun e=>Region.binds .any e&&e.on==on)|none=>false
def SpI.ok(ops:Array Oper)(x:SpI):Bool:=opIs ops x.c x.q&&(match x.s with|some (i,t)=>opIs ops i t&&waits ops x.c i&&decide (i≠x.c)&&decide (t≠x.q)|none=>true)
def SpI.apart(x y:SpI):Bool:=x.idx.all (fun i=>!y.idx.contains i)&&x.tmps.all (fun t=>!y.tmps.contains t)
def spItems(ops:Array Oper):List SpI→Bool
 |[]=>true
 |x :: r=>x.ok ops&&r.all (fun y=>x.apart y)&&(match r with|y :: _=>waits ops y.c x.c|[]=>true)&&spItems ops r
def spB(ops:Array Oper)(L0:Array Bool)(items:List SpI)(T:Nat):Bool:=
 decide (L0.size=ops.size)&&(List.range ops.size).all (fun i=>L0.getD i true||(spIdx items).contains i)&&(spIdx items).all (fun i=>!L0.getD i true)&&(spTmps items).all (fun t=>decide (t<T)) &&
 (List.range ops.size).all (fun i=>match ops[i]? with|some o=>o.after.all (fun e=>decide (e.on<i))|none=>true)&&spItems ops items
theorem opIs_spec{ops:Array Oper}{i:Nat}{d:Tmp}(h:opIs ops i d=true):∃o,ops[i]?=some o∧o.dst=some d∧o.guard=none:=by
 unfold opIs at h
 cases ho:ops[i]? with
 |none=>rw[ho]at h;cases h
 |some o=>
  rw[ho]at h;simp only[Bool.and_eq_true,beq_iff_eq,Option.isNone_iff_eq_none]at h;exact ⟨o,rfl,h⟩
theorem waits_spec{ops:Array Oper}{i on:Nat}(h:waits ops i on=true){o:Oper}(ho:ops[i]?=some o):∃e∈o.after,Region.binds .any e=true∧e.on=on:=by
 unfold waits at h;rw[ho]at h;obtain ⟨e,he,hb⟩:=Array.any_eq_true'.1 h;simp only[Bool.and_eq_true,beq_iff_eq]at hb;exact ⟨e,he,hb⟩
theorem spItems_ok{ops:Array Oper}:∀ {items:List SpI},spItems ops items=true→∀ {j:Nat} {x:SpI},items[j]?=some x→x.ok ops=true
 |[],_,j,x,h=>by simp at h
 |y :: r,h,j,x,hx=>by
  simp only[spItems,Bool.and_eq_true]at h
  cases j with
  |zero=>simp at hx;subst hx;exact h.1.1.1
  |succ j=>exact spItems_ok h.2 (by simpa using hx)
theorem spItems_waits{ops:Array Oper}:∀ {items:List SpI},spItems ops items=true→∀ {j:Nat} {x y:SpI},items[j]?=some x→items[j+1]?=some y→waits ops y.c x.c=true
 |[],_,j,x,y,h,_=>by simp at h
 |z :: r,h,j,x,y,hx,hy=>by
  simp only[spItems,Bool.and_eq_true]at h
  cases j with
  |zero=>
   simp at hx;subst hx
   cases r with
   |nil=>simp at hy
   |cons u r=>simp at hy;subst hy;exact h.1.2
  |succ j=>exact spItems_waits h.2 (by simpa using hx) (by simpa using hy)
theorem spItems_lt{ops:Array Oper}:∀ {items:List SpI},spItems ops items=true→∀ {j k:Nat} {x y:SpI},j<k→items[j]?=some x→items[k]?=some y→x.apart y=true
 |[],_,j,k,x,y,_,h,_=>by simp at h
 |z :: r,h,j,k,x,y,hjk,hx,hy=>by
  simp only[spItems,Bool.and_eq_true,List.all_eq_true]at h
  cases k with
  |zero=>omega
  |succ k=>
   cases j with
   |zero=>
    simp at hx;subst hx;exact h.1.1.2 y (List.mem_of_getElem? (by simpa using hy))
   |succ j=>exact spItems_lt h.2 (show j<k by omega) (by simpa using hx) (by simpa using hy)
theorem SpI.apart_idx{x y:SpI}(h:x.apart y=true){i k:Nat}(hi:i∈x.idx)(hk:k∈y.idx):i≠k:=fun e=>by
 simp only[SpI.apart,Bool.and_eq_true,List.all_eq_true]at h;have:=h.1 i hi;rw[e]at this;simp[hk]at this
theorem SpI.apart_tmp{x y:SpI}(h:x.apart y=true){i k:Tmp}(hi:i∈x.tmps)(hk:k∈y.tmps):i≠k:=fun e=>by
 simp only[SpI.apart,Bool.and_eq_true,List.all_eq_true]at h;have:=h.2 i hi;rw[e]at this;simp[hk]at this
theorem sp_idx_ne{ops:Array Oper}{items:List SpI}(h:spItems ops items=true){j k:Nat}{x y:SpI}(hx:items[j]?=some x)(hy:items[k]?=some y)(hne:j≠k){i i':Nat}(hi:i∈x.idx)(hi':i'∈y.idx):i≠i':=by
 rcases Nat.lt_or_gt_of_ne hne with hl|hl
 ·exact SpI.apart_idx (spItems_lt h hl hx hy) hi hi'
 ·exact (SpI.apart_idx (spItems_lt h hl hy hx) hi' hi).symm
theorem sp_tmp_ne{ops:Array Oper}{items:List SpI}(h:spItems ops items=true){j k:Nat}{x y:SpI}(hx:items[j]?=some x)(hy:items[k]?=some y)(hne:j≠k){i i':Tmp}(hi:i∈x.tmps)(hi':i'∈y.tmps):i≠i':=by
 rcases Nat.lt_or_gt_of_ne hne with hl|hl
 ·exact SpI.apart_tmp (spItems_lt h hl hx hy) hi hi'
 ·exact (SpI.apart_tmp (spItems_lt h hl hy hx) hi' hi).symm
theorem SpI.c_mem(x:SpI):x.c∈x.idx:=by simp[SpI.idx]
theorem SpI.q_mem(x:SpI):x.q∈x.tmps:=by simp[SpI.tmps]
theorem SpI.i_mem{x:SpI}{i:Nat}{t:Tmp}(h:x.s=some (i,t)):i∈x.idx:=by simp[SpI.idx,h]
theorem SpI.t_mem{x:SpI}{i:Nat}{t:Tmp}(h:x.s=some (i,t)):t∈x.tmps:=by simp[SpI.tmps,h]
theorem mem_spIdx{items:List SpI}{i:Nat}:i∈spIdx items↔∃(j:Nat) (x:SpI),items[j]?=some x∧i∈x.idx:=by
 unfold spIdx;rw[List.mem_flatMap];constructor
 ·rintro ⟨x,hx,hi⟩;obtain ⟨j,hj⟩:=List.getElem?_of_mem hx;exact ⟨j,x,hj,hi⟩
 ·rintro ⟨j,x,hj,hi⟩;exact ⟨x,List.mem_of_getElem? hj,hi⟩
theorem mem_spTmps{items:List SpI}{j:Nat}{x:SpI}(h:items[j]?=some x){t:Tmp}(ht:t∈x.tmps):t∈spTmps items:=List.mem_flatMap.2 ⟨x,List.mem_of_getElem? h,ht⟩
theorem SpI.mem_idx{x:SpI}{i:Nat}(h:i∈x.idx):i=x.c∨∃t,x.s=some (i,t):=by
 unfold SpI.idx at h
 cases hs:x.s with
 |none=>rw[hs]at h;simp at h;exact .inl h
 |some p=>
  rw[hs]at h;simp at h
  rcases h with rfl|h
  ·exact .inr ⟨p.2,rfl⟩
  ·exact .inl h
theorem eval_put_same{a:Act}{d:Tmp}{u:Value}(h:d<a.tmps.size):(a.put (some d) u).eval (.tmp d)=u:=by
 simp[Act.put,Act.eval,h]
theorem eval_put_ne{a:Act}{d t:Tmp}{u:Value}(h:d≠t):(a.put (some d) u).eval (.tmp t)=a.eval (.tmp t):=by
 simp[Act.put,Act.eval,Array.getElem?_setIfInBounds_ne h]
theorem tmps_put_ne{a:Act}{d t:Tmp}{u:Value}(h:d≠t):(a.put (some d) u).tmps[t]?=a.tmps[t]?:=by
 simp[Act.put,Array.getElem?_setIfInBounds_ne h]
theorem eval_of{a a0:Act}{t:Tmp}(h:a.tmps[t]?=a0.tmps[t]?):a.eval (.tmp t)=a0.eval (.tmp t):=by
 simp only[Act.eval,Array.getD_eq_getD_getElem?,h]
theorem tmps_put_size{a:Act}{d:Tmp}{u:Value}:(a.put (some d) u).tmps.size=a.tmps.size:=by simp[Act.put]
section
variable {P:Program}{ops:Array Oper}{Q:Exit→Act→World→Prop}{S:World→Prop}
structure SpInv(ops:Array Oper)(L0:Array Bool)(a0:Act)(items:List SpI)(Z:Nat→World→Prop)(B:Nat→Value→World→Prop)(ret:Nat→Value)(listed:Array Bool)(a:Act)(w:World)(k:Nat):Prop where
 size:listed.size=ops.size
 mono:∀i,L0.getD i true=true→listed.getD i true=true
 defers:a.defers=a0.defers
 tsize:a.tmps.size=a0.tmps.size
 out:∀t,t ∉ spTmps items→a.tmps[t]?=a0.tmps[t]?
 le:k≤items.length
 z:Z k w
 calls:∀j x,items[j]?=some x→(listed.getD x.c true=true↔j<k)
 rets:∀j x,items[j]?=some x→j<k→a.eval (.tmp x.q)=ret j
 rows:∀j x i t,items[j]?=some x→x.s=some (i,t)→listed.getD i true=true→B j (a.eval (.tmp t)) w
theorem getD_tf{L:Array Bool}{i:Nat}(h:i<L.size):L.getD i true=L.getD i false:=by simp[h]
theorem getD_set_same{L:Array Bool}{i:Nat}(h:i<L.size)(d:Bool):(L.setIfInBounds i true).getD i d=true:=by simp[h]
theorem spine_go{L0:Array Bool}{a0:Act}{items:List SpI}{Z:Nat→World→Prop}{B:Nat→Value→World→Prop}{ret:Nat→Value}(hb:spB ops L0 items a0.tmps.size=true)
  (hsl:∀j x i t o k a w (K:Act→World→Prop),items[j]?=some x→x.s=some (i,t)→ops[i]?=some o→Z k w→(∀t,t ∉ spTmps items→a.eval (.tmp t)=a0.eval (.tmp t))→(∀u w',Z k w'→S w'→B j u w'→(∀j' u',B j' u' w→B j' u' w')→K (a.put (some t) u) w')→o.wp P a w K Q)
  (hcl:∀j x o a w (K:Act→World→Prop),items[j]?=some x→ops[x.c]?=some o→Z j w→a.defers=a0.defers→(∀t,t ∉ spTmps items→a.eval (.tmp t)=a0.eval (.tmp t))→(∀j' x',j'<j→items[j']?=some x'→a.eval (.tmp x'.q)=ret j')→(∀i t,x.s=some (i,t)→B j (a.eval (.tmp t)) w)→(∀w',Z (j+1) w'→S w'→(∀j' u',B j' u' w→B j' u' w')→K (a.put (some x.q) (ret j)) w')→o.wp P a w K Q)
  (hend:∀a w,Z items.length w→a.defers=a0.defers→a.tmps.size=a0.tmps.size→(∀t,t ∉ spTmps items→a.tmps[t]?=a0.tmps[t]?)→(∀j x,items[j]?=some x→a.eval (.tmp x.q)=ret j)→Q .normal a w) :
  ∀(fuel:Nat) (listed:Array Bool) (a:Act) (w:World) (k:Nat) (rem:List Nat),SpInv ops L0 a0 items Z B ret listed a w k→(∀i,i<ops.size→listed.getD i true=false→i∈rem)→rem.length≤fuel→wpAnyH P .any ops Q S fuel listed a w:=by
 simp only[spB,Bool.and_eq_true,decide_eq_true_eq,List.all_eq_true,List.mem_range,Bool.or_eq_true]at hb;obtain ⟨⟨⟨⟨⟨F1,F2⟩,F3⟩,F6⟩,F7⟩,F8⟩:=hb
 have allEnd:∀listed a w k,SpInv ops L0 a0 items Z B ret listed a w k→(∀i,i<ops.size→listed.getD i true=true)→Q .normal a w:=fun listed a w k I hall=>by
  have hk:k=items.length:=by
   rcases Nat.lt_or_ge k items.length with h|h
   ·obtain ⟨x,hx⟩:∃x,items[k]?=some x:=⟨_,List.getElem?_eq_getElem h⟩;have hok:=spItems_ok F8 hx;simp only[SpI.ok,Bool.and_eq_true]at hok;obtain ⟨o,ho,_⟩:=opIs_spec hok.1;have:=(I.calls k x hx).1 (hall _ (Array.getElem?_eq_some_iff.1 ho).1);omega
   ·have:=I.le;omega
  subst hk;exact hend a w I.z I.defers I.tsize I.out fun j x hx=>I.rets j x hx (List.getElem?_eq_some_iff.1 hx).1
 intro fuel
 induction fuel with
 |zero=>
  intro listed a w k rem I hrem hl;have hnil:rem=[]:=List.length_eq_zero_iff.1 (by omega)
  have hall:∀i,i<ops.size→listed.getD i true=true:=fun i hi=>by
   cases h:listed.getD i true with
   |true=>rfl
   |false=>have:=hrem i hi h;rw[hnil]at this;cases this
  refine ⟨?_,allEnd listed a w k I hall⟩;refine List.eq_nil_iff_forall_not_mem.2 fun i hi=>?_;obtain ⟨h1,o,ho,_⟩:=mem_ready.1 hi;rw[hall i (Array.getElem?_eq_some_iff.1 ho).1]at h1;cases h1
 |succ fuel ih=>
  intro listed a w k rem I hrem hl;refine ⟨fun hnil=>?_,fun i hi=>?_⟩
  ·refine allEnd listed a w k I fun i=>?_
   induction i using Nat.strongRecOn with
   |_ i ihi=>
    intro hlt
    cases h:listed.getD i true with
    |true=>rfl
    |false=>
     obtain ⟨o,ho⟩:∃o,ops[i]?=some o:=⟨_,Array.getElem?_eq_getElem hlt⟩
     have:i∈Region.ready .any ops listed:=mem_ready.2 ⟨h,o,ho,fun e he hbn=>by
      have h7:=F7 i hlt;rw[ho]at h7
      have hlt2:e.on<i:=by
       have:=Array.all_eq_true'.1 h7 e he
       simpa using this
      have:=ihi e.on hlt2 (by omega)
      rwa [getD_tf (by rw[I.size];omega)]at this⟩
     rw[hnil]at this;cases this
  ·obtain ⟨hun,o,ho,haft⟩:=mem_ready.1 hi;have hlt:i<ops.size:=(Array.getElem?_eq_some_iff.1 ho).1
   have hin:i∈spIdx items:=by
    rcases F2 i hlt with h|h
    ·have:=I.mono i h;rw[this]at hun;cases hun
    ·simpa using h
   obtain ⟨j,x,hx,hix⟩:=mem_spIdx.1 hin;have hok:=spItems_ok F8 hx;simp only[SpI.ok,Bool.and_eq_true]at hok
   have hlis:i<listed.size:=by rw[I.size];exact hlt
   have hrem2:∀k,k<ops.size→(listed.setIfInBounds i true).getD k true=false→k∈rem.erase i:=fun k hk hf=>by
    by_cases e:i=k
    ·subst e;rw[getD_set_same hlis]at hf;cases hf
    ·rw[Go.getD_set_ne true e]at hf;exact (List.mem_erase_of_ne (Ne.symm e)).2 (hrem k hk hf)
   have hlen2:(rem.erase i).length≤fuel:=by
    have h1:=List.length_erase_of_mem (hrem i hlt hun);omega
   have hmono2:∀k,L0.getD k true=true→(listed.setIfInBounds i true).getD k true=true:=fun k hk=>by
    by_cases e:i=k
    ·subst e;exact getD_set_same hlis true
    ·rw[Go.getD_set_ne true e];exact I.mono k hk
   unfold wpOp;simp only[ho]
   rcases SpI.mem_idx hix with rfl|⟨t,hs⟩
   ·obtain ⟨o',ho',hdst,hg⟩:=opIs_spec hok.1;obtain rfl:o=o':=Option.some.inj (ho.symm.trans ho');rw[if_pos (by simp[Region.wanted,hg])];left
    have hnk:¬j<k:=fun h=>by rw[(I.calls j x hx).2 h]at hun;cases hun
    have hjk:j=k:=by
     rcases Nat.lt_or_ge k j with h|h
     ·exfalso;obtain ⟨j',rfl⟩:∃j',j=j'+1:=⟨j - 1,by omega⟩;obtain ⟨y,hy⟩:∃y,items[j']?=some y:=⟨_,List.getElem?_eq_getElem (by have:=(List.getElem?_eq_some_iff.1 hx).1;omega)⟩;obtain ⟨e,he,hbn,hon⟩:=waits_spec (spItems_waits F8 hy hx) ho;have h1:=haft e he hbn;have hys:=spItems_ok F8 hy
      simp only[SpI.ok,Bool.and_eq_true]at hys;obtain ⟨oy,hoy,_⟩:=opIs_spec hys.1;rw[hon,←getD_tf (by rw[I.size];exact (Array.getElem?_eq_some_iff.1 hoy).1)]at h1;have:=(I.calls j' y hy).1 h1;omega
     ·omega
    subst hjk
    have hrow:∀i t,x.s=some (i,t)→B j (a.eval (.tmp t)) w:=fun i t hs=>by
     have h2:=hok.2;rw[hs]at h2;simp only[Bool.and_eq_true]at h2;obtain ⟨⟨⟨h21,h22⟩,_⟩,_⟩:=h2;obtain ⟨e,he,hbn,hon⟩:=waits_spec h22 ho;have h1:=haft e he hbn;obtain ⟨oi,hoi,_⟩:=opIs_spec h21;rw[hon,←getD_tf (by rw[I.size];exact (Array.getElem?_eq_some_iff.1 hoi).1)]at h1
     exact I.rows j x i t hx hs h1
    have hqs:x.q<a.tmps.size:=by rw[I.tsize];exact F6 _ (mem_spTmps hx x.q_mem)
    refine hcl j x o a w _ hx ho I.z I.defers (fun t ht=>eval_of (I.out t ht)) (fun j' x' hj' hx'=>I.rets j' x' hx' hj') hrow fun w' hZ hS hB=>⟨hS,?_⟩
    refine ih _ _ _ (j+1) (rem.erase x.c) ⟨by simp[I.size],hmono2,I.defers,tmps_put_size.trans I.tsize,fun t ht=>?_,(List.getElem?_eq_some_iff.1 hx).1,hZ,fun j' y hy=>?_,fun j' y hy hlt'=>?_,fun j' y i t hy hs hli=>?_⟩ hrem2 hlen2
    ·rw[tmps_put_ne (fun e=>ht (by rw[←e];exact mem_spTmps hx x.q_mem))];exact I.out t ht
    ·by_cases e:j=j'
     ·subst e;obtain rfl:x=y:=Option.some.inj (hx.symm.trans hy);rw[getD_set_same hlis];simp
     ·have hne:=sp_idx_ne F8 hx hy e x.c_mem y.c_mem;rw[Go.getD_set_ne true hne,I.calls j' y hy];omega
    ·by_cases e:j=j'
     ·subst e;obtain rfl:x=y:=Option.some.inj (hx.symm.trans hy);exact eval_put_same hqs
     ·rw[eval_put_ne (sp_tmp_ne F8 hx hy e x.q_mem y.q_mem)];exact I.rets j' y hy (by omega)
    ·have hne:x.c≠i∧x.q≠t:=by
      by_cases e:j=j'
      ·subst e;obtain rfl:x=y:=Option.some.inj (hx.symm.trans hy);have h2:=hok.2;rw[hs]at h2;simp only[Bool.and_eq_true,decide_eq_true_eq]at h2;exact ⟨fun e=>h2.1.2 e.symm,fun e=>h2.2 e.symm⟩
      ·exact ⟨sp_idx_ne F8 hx hy e x.c_mem (SpI.i_mem hs),sp_tmp_ne F8 hx hy e x.q_mem (SpI.t_mem hs)⟩
     rw[Go.getD_set_ne true hne.1]at hli;rw[eval_put_ne hne.2];exact hB _ _ (I.rows j' y i t hy hs hli)
   ·have h2:=hok.2;rw[hs]at h2;simp only[Bool.and_eq_true,decide_eq_true_eq]at h2;obtain ⟨⟨⟨h21,h22⟩,hic⟩,htq⟩:=h2;obtain ⟨o',ho',hdst,hg⟩:=opIs_spec h21;obtain rfl:o=o':=Option.some.inj (ho.symm.trans ho');rw[if_pos (by simp[Region.wanted,hg])];left
    have hts:t<a.tmps.size:=by rw[I.tsize];exact F6 _ (mem_spTmps hx (SpI.t_mem hs))
    refine hsl j x i t o k a w _ hx hs ho I.z (fun t ht=>eval_of (I.out t ht)) fun u w' hZ hS hB hF=>⟨hS,?_⟩
    refine ih _ _ _ k (rem.erase i) ⟨by simp[I.size],hmono2,I.defers,tmps_put_size.trans I.tsize,fun t' ht=>?_,I.le,hZ,fun j' y hy=>?_,fun j' y hy hlt'=>?_,fun j' y i' t' hy hs' hli=>?_⟩ hrem2 hlen2
    ·rw[tmps_put_ne (fun e=>ht (by rw[←e];exact mem_spTmps hx (SpI.t_mem hs)))];exact I.out t' ht
    ·have hne:i≠y.c:=by
      by_cases e:j=j'
      ·subst e;obtain rfl:x=y:=Option.some.inj (hx.symm.trans hy);exact hic
      ·exact sp_idx_ne F8 hx hy e (SpI.i_mem hs) y.c_mem
     rw[Go.getD_set_ne true hne];exact I.calls j' y hy
    ·have hne:t≠y.q:=by
      by_cases e:j=j'
      ·subst e;obtain rfl:x=y:=Option.some.inj (hx.symm.trans hy);exact htq
      ·exact sp_tmp_ne F8 hx hy e (SpI.t_mem hs) y.q_mem
     rw[eval_put_ne hne];exact I.rets j' y hy hlt'
    ·by_cases e:j=j'
     ·subst e;obtain rfl:x=y:=Option.some.inj (hx.symm.trans hy);rw[hs]at hs';obtain ⟨rfl,rfl⟩:=Prod.mk.inj (Option.some.inj hs');rw[eval_put_same hts];exact hB
     ·rw[Go.getD_set_ne true (sp_idx_ne F8 hx hy e (SpI.i_mem hs) (SpI.i_mem hs'))]at hli;rw[eval_put_ne (sp_tmp_ne F8 hx hy e (SpI.t_mem hs) (SpI.t_mem hs'))];exact hF _ _ (I.rows j' y i' t' hy hs' hli)
end
end
section
open Go.RowKit Qs Qh
theorem callEmOp(args:Array Value)(w:World):(callFunc 49 args).run Tryz.prog w=.ok (.enter 49 args) w:=by kernel_rfl
theorem callEmTo(args:Array Value)(w:World):(callFunc 65 args).run Tryz.prog w=.ok (.enter 65 args) w:=by kernel_rfl
theorem callEmLabel(args:Array Value)(w:World):(callFunc 64 args).run Tryz.prog w=.ok (.enter 64 args) w:=by kernel_rfl
def callOf(o:Op):Option (Nat × Array Operand):=match o with
 |.call c=>(match c.callee with|.value (.func f)=>some (f,c.args)|_=>none)
 |_=>none
theorem wp_callOf{P:Program}{o:Oper}{a:Act}{w:World}{f:FuncId}{A:Array Operand}(hf:∀args w,(callFunc f args).run P w=.ok (.enter f args) w)(ho:callOf o.op=some (f,A))
  {Q:Exit→Act→World→Prop} {K:Act→World→Prop} (h:Calls P f (A.map a.eval) w fun e w'=>∃v,e=.returned v∧K (a.put o.dst v) w'):o.wp P a w K Q:=by
 have hr:(execOp a.eval o).run P w=.ok (.enter f (A.map a.eval)) w:=by
  unfold callOf at ho
  split at ho
  ·rename_i c hc
   split at ho
   ·rename_i f' hf'
    cases ho;unfold execOp;simp only[hc,resolve,hf',Act.eval,Deferred.ofValue,invoke,Sem.run_bind,Sem.run_pure,Result.andThen_ok,Array.append_empty,Array.empty_append,hf]
   ·cases ho
  ·cases ho
 unfold Oper.wp;rw[hr,Oper.upon_enter];refine h.mono ?_;rintro e w' ⟨v,rfl,hk⟩;exact hk
def isTmp(x:Operand)(t:Nat):Bool:=match x with|.tmp u=>u==t|_=>false
def isStr(x:Operand)(s:ByteArray):Bool:=match x with|.const (.string u)=>decide (u.data.toList=s.data.toList)|_=>false
def isNilRow(x:Operand):Bool:=match x with|.const (.slice none 0 0)=>true|_=>false
theorem isTmp_spec{x:Operand}{t:Nat}(h:isTmp x t=true):x=.tmp t:=by
 unfold isTmp at h
 split at h
 ·rw[beq_iff_eq]at h;rw[h]
 ·cases h
theorem isStr_spec{x:Operand}{s:ByteArray}(h:isStr x s=true):x=.const (.string s):=by
 unfold isStr at h
 split at h
 ·rename_i u
  have h:=of_decide_eq_true h
  have:u=s:=by
   cases u;cases s;simp only at h
   congr 1
   exact Array.ext' h
  rw[this]
 ·cases h
theorem isNilRow_spec{x:Operand}(h:isNilRow x=true):x=.const (.slice none 0 0):=by
 unfold isNilRow at h
 split at h
 ·rfl
 ·cases h
theorem intsInfo:(Tryz.prog.info? 3).map (·.size)=some 1∧((Tryz.prog.info? 3).bind (·.zero)).isSome=true:=⟨by kernel_rfl,by kernel_rfl⟩
def patch(ts:List Nat)(U:Nat→Value)(a:Act):Act:=ts.foldl (fun acc t=>acc.put (some t) (U t)) a
theorem patch_self:∀(ts:List Nat) (a0 a:Act),a.defers=a0.defers→a.tmps.size=a0.tmps.size→(∀t,t ∉ ts→a.tmps[t]?=a0.tmps[t]?)→patch ts (fun t=>a.eval (.tmp t)) a0=a
 |[],a0,a,hd,hs,h=>by
  cases a;cases a0;simp only[patch,List.foldl]at *;subst hd
  congr 1
  exact (Array.ext_getElem? fun i=>(h i (by simp))).symm
 |t :: ts,a0,a,hd,hs,h=>by
  show patch ts _ (a0.put (some t) (a.eval (.tmp t)))=a;refine patch_self ts _ a hd ?_ fun u hu=>?_
  ·rw[tmps_put_size];exact hs
  ·by_cases e:t=u
   ·subst e
    by_cases hlt:t<a.tmps.size
    ·have hlt0:t<a0.tmps.size:=by omega
     simp[Act.put,Act.eval,hlt,hlt0]
    ·have hlt0:¬t<a0.tmps.size:=by omega
     simp[Act.put,hlt,hlt0]
   ·rw[tmps_put_ne e];exact h u (by simp[hu,Ne.symm e])
end
section
open Go.RowKit Qs Qh
namespace Mk
theorem callEmMore(args:Array Value)(w:World):(callFunc 74 args).run Tryz.prog w=.ok (.enter 74 args) w:=by kernel_rfl
structure Row(w:World)(b g:Nat)(l:List Int):Prop where
 cell:∀i x,l[i]?=some x→w.cell? ⟨g,i,none⟩=some (.int .i64 x)
 lt:g<w.heap.size
 ne:g≠b
 row:∀v,w.cell? ⟨b,0,none⟩=some v→v.ownBlock≠some g
def RowV(w:World)(b:Nat)(l:List Int)(u:Value):Prop:=∃g,u=.slice (some ⟨g,0,none⟩) l.length l.length∧Row w b g l
section
variable {w0 w w1:World}{b o g:Nat}{v0 v:Value}{l:List Instr}{z:List Int}
theorem Row.next{l':List Instr}(K:Row w b g z)(hv:w.cell? ⟨b,0,none⟩=some v)(C:Chain w b 0 v l' w1):Row w1 b g z:=by
 obtain ⟨hb,v',E,G⟩:=C;have hne:=K.row v hv;refine ⟨fun i x hx=>G.mod.cell (K.cell i x hx) (fun e=>e.elim K.ne hne),Nat.lt_of_lt_of_le K.lt G.mod.size,K.ne,fun v2 h2 e=>?_⟩;rw[E.cell]at h2;obtain rfl:=Option.some.inj h2
 rcases G.new g e with h|h
 ·exact hne h
 ·have:=K.lt;omega
theorem Row.quiet(K:Row w b g z)(hb:b<w.heap.size)(h:Mod noF w w1):Row w1 b g z:=
 ⟨fun i x hx=>h.cell (K.cell i x hx) (fun e=>e),Nat.lt_of_lt_of_le K.lt h.size,K.ne,fun v hv=>K.row v (by rw[←cell_same h hb];exact hv)⟩
theorem Row.fresh(C:Chain w0 b 0 v0 l w)(z:List Int)(t:TypeId):Row (w.alloc (.cells (z.map (Value.int .i64)).toArray t)) b w.heap.size z:=by
 obtain ⟨v,C1,hv,hf,_⟩:=C.re ((Mod.refl noF w).alloc (.cells (z.map (Value.int .i64)).toArray t));refine ⟨fun i x hx=>?_,by simp,?_,fun v' hv' e=>?_⟩
 ·rw[cell_of_heap ((heap_alloc_new w _).trans rfl)];simp[hx]
 ·have:=C.lt;omega
 ·rw[hv]at hv';obtain rfl:=Option.some.inj hv';exact hf _ (Nat.le_refl _) e
end
inductive ZP where
 |c (n:Int)
 |t (k:Nat)
deriving DecidableEq
def ZP.val(ev:Nat→Int):ZP→Int
 |.c n=>n
 |.t k=>ev k
structure EmC where
 n:Nat
 zp:List ZP
 to:List UInt8
 kind:Nat
 lt:Nat
 more:List Instr:=[]
def EmC.z(ev:Nat→Int)(e:EmC):List Int:=e.zp.map (ZP.val ev)
def EmC.ins(ev:Nat→Int)(e:EmC):Instr:=⟨e.n,(e.z ev).getD 0 0,(e.z ev).getD 1 0,(e.z ev).getD 2 0,e.to⟩
def EmC.code(ev:Nat→Int)(e:EmC):List Instr:=if e.kind=4 then e.more else [e.ins ev]
def slOk(x:Operand)(e:EmC)(s:Option (Nat × Tmp)):Bool:=match s with
 |some (_,t)=>isTmp x t
 |none=>e.zp.isEmpty&&isNilRow x
def argsOk(A:Array Operand)(r:Nat)(e:EmC)(s:Option (Nat × Tmp)):Bool:=match e.kind,A.toList with
 |0,[x,y,z]=>isTmp x r&&isStr y (opStr e.n)&&slOk z e s&&e.to.isEmpty
 |1,[x,l,y,z]=>isTmp x r&&isTmp l e.lt&&isStr y (opStr e.n)&&slOk z e s
 |2,[x,l]=>isTmp x r&&isTmp l e.lt&&e.zp.isEmpty&&e.n==17&&s.isNone
 |4,[x,l]=>isTmp x r&&isTmp l e.lt&&s.isNone
 |_,_=>false
def fnOf(k:Nat):Nat:=match k with|0=>49 | 1=>65 | 2=>64 | _=>74
def isInt(x:Operand)(v:ZP):Bool:=match x,v with|.const (.int .i64 u),.c n=>u==n|.tmp u,.t k=>u==k|_,_=>false
def partsOk:List (Nat × Operand)→Nat→List ZP→Bool
 |[],_,[]=>true
 |p :: r,i,x :: xs=>p.1==i&&isInt p.2 x&&partsOk r (i+1) xs
 |_,_,_=>false
def outs(out:List Nat)(z:List ZP):Bool:=z.all fun x=>match x with|.t k=>!out.contains k|_=>true
def slcOk(ops:Array Oper)(out:List Nat)(z:List ZP)(s:Option (Nat × Tmp)):Bool:=match s with
 |none=>true
 |some (i,t)=>match ops[i]? with
  |some o=>(match o.op with|.buildSlice ty n parts=>ty == 23 && n==z.length&&decide (0<z.length)&&decide (z.length≤3)&&partsOk parts.toList 0 z&&outs out z|_=>false)&&o.dst==some t
  |none=>false
def emRow(ops:Array Oper)(out:List Nat):Nat→List SpI→List EmC→Bool
 |_,[],[]=>true
 |r,x :: xs,e :: es=>(match ops[x.c]? with
   |some o=>(match callOf o.op with|some (f,A)=>f==fnOf e.kind&&argsOk A r e x.s&&decide (e.kind≤4)|none=>false)&&o.dst==some x.q
   |none=>false)&&slcOk ops out e.zp x.s&&(e.kind==0 || !out.contains e.lt)&&emRow ops out x.q xs es
 |_,_,_=>false
theorem isInt_spec{ev:Nat→Int}{a:Act}{x:Operand}{v:ZP}(h:isInt x v=true)(ht:∀k,v=.t k→a.eval (.tmp k)=.int .i64 (ev k)):a.eval x=.int .i64 (v.val ev):=by
 unfold isInt at h
 split at h
 ·rw[beq_iff_eq]at h;rw[h];rfl
 ·rename_i u k
  rw[beq_iff_eq]at h;subst h;exact ht _ rfl
 ·cases h
theorem partsOk_spec{ev:Nat→Int}{a:Act}:∀(l:List (Nat × Operand)) (i:Nat) (z:List ZP),partsOk l i z=true→(∀k,ZP.t k∈z→a.eval (.tmp k)=.int .i64 (ev k))→l.map (fun p=>(p.1,a.eval p.2))=(((z.map (ZP.val ev)).map (Value.int .i64)).zipIdx i).map fun x=>(x.2,x.1)
 |[],_,[],_,_=>rfl
 |[],_,_ :: _,h,_=>by simp[partsOk]at h
 |(k,o) :: r,i,[],h,_=>by simp[partsOk]at h
 |(k,o) :: r,i,x :: xs,h,ht=>by
  simp only[partsOk,Bool.and_eq_true,beq_iff_eq]at h;obtain ⟨⟨rfl,h2⟩,h3⟩:=h;have h4:=isInt_spec (a:=a) (ev:=ev) h2 (fun k e=>ht k (by rw[e];simp));simp only[List.map_cons,List.zipIdx_cons,h4];rw[partsOk_spec r _ xs h3 (fun k hk=>ht k (List.mem_cons_of_mem _ hk))]
def SlV(w:World)(b:Nat)(z:List Int)(u:Value):Prop:=(z=[]∧u=.slice none 0 0)∨((1≤z.length∧z.length≤3)∧RowV w b z u)
theorem RowV.cells{w:World}{b:Nat}{z:List Int}{u:Value}(h:RowV w b z u):∃g,u=.slice (some ⟨g,0,none⟩) z.length z.length∧g<w.heap.size∧∀i x,z[i]?=some x→w.cell? ⟨g,i,none⟩=some (.int .i64 x):=by
 obtain ⟨g,rfl,R⟩:=h;exact ⟨g,rfl,R.lt,R.cell⟩
variable {w0 w w1:World}{b o g:Nat}{v0 v:Value}{l:List Instr}
theorem em_op(C:Chain w0 b 0 v0 l w)(hlen:l.length≤1000000)(n:Nat){z:List Int}{u:Value}(h:SlV w b z u) :
  Calls Tryz.prog 49 #[.pointer (some ⟨b,0,none⟩),.string (opStr n),u] w fun e w'=>e=.returned (.pointer (some ⟨b,0,none⟩))∧Chain w0 b 0 v0 (l++[⟨n,z.getD 0 0,z.getD 1 0,z.getD 2 0,[]⟩]) w':=by
 rcases h with ⟨rfl,rfl⟩|⟨⟨h1,h3⟩,h⟩
 ·exact op0_chain C hlen n _ rfl
 ·obtain ⟨g,rfl,hg,hc⟩:=h.cells
  match z,h1,h3 with
  |[x],_,_=>exact op1_chain C hlen n _ rfl g x 1 (hc 0 x rfl) hg
  |[x,y],_,_=>exact op2_chain C hlen n _ rfl g x y 2 (hc 0 x rfl) (hc 1 y rfl) hg
  |[x,y,t],_,_=>exact op3_chain C hlen n _ rfl g x y t 3 (hc 0 x rfl) (hc 1 y rfl) (hc 2 t rfl) hg
  |_ :: _ :: _ :: _ :: _,_,h3=>exact absurd h3 (by simp)
theorem em_to(C:Chain w0 b 0 v0 l w)(hlen:l.length≤1000000)(n:Nat){z:List Int}{u:Value}(h:SlV w b z u)(hz:z.length≤2)(to:List UInt8) :
  Calls Tryz.prog 65 #[.pointer (some ⟨b,0,none⟩),.string ⟨to.toArray⟩,.string (opStr n),u] w fun e w'=>e=.returned (.pointer (some ⟨b,0,none⟩))∧Chain w0 b 0 v0 (l++[⟨n,z.getD 0 0,z.getD 1 0,z.getD 2 0,to⟩]) w':=by
 rcases h with ⟨rfl,rfl⟩|⟨⟨h1,h3⟩,h⟩
 ·exact to0_chain C hlen n _ rfl to _ rfl
 ·obtain ⟨g,rfl,hg,hc⟩:=h.cells
  match z,h1,hz with
  |[x],_,_=>exact to1_chain C hlen n _ rfl to _ rfl g x 1 (hc 0 x rfl) hg
  |[x,y],_,_=>exact to2_chain C hlen n _ rfl to _ rfl g x y 2 (hc 0 x rfl) (hc 1 y rfl) hg
  |_ :: _ :: _ :: _,_,h3=>exact absurd h3 (by simp)
theorem wp_slc{ev:Nat→Int}{x:Oper}{a:Act}{K:Act→World→Prop}{Q:Exit→Act→World→Prop}{z:List ZP}{parts:Array (Nat × Operand)}(ho:x.op=.buildSlice 23 z.length parts)(hp:partsOk parts.toList 0 z=true)(ht:∀k,ZP.t k∈z→a.eval (.tmp k)=.int .i64 (ev k))(h1:0<z.length)(h3:z.length≤3)
  (h:K (a.put x.dst (.slice (some ⟨w.heap.size,0,none⟩) z.length z.length)) (w.alloc (.cells ((z.map (ZP.val ev)).map (Value.int .i64)).toArray 3))):x.wp Tryz.prog a w K Q:=by
 obtain ⟨hsz,hz⟩:=intsInfo
 cases hie : Tryz.prog.info? 3 with
 |none=>simp[hie]at hsz
 |some ie=>
  simp only[hie,Option.map_some,Option.some.injEq,Option.bind_some]at hsz hz;obtain ⟨zz,hzz⟩:=Option.isSome_iff_exists.1 hz;refine wp_buildSlice 23 3 z.length parts ho _ ie zz Tryz.underlying23 hie hzz (by rw[hsz];omega) (by rw[hsz];omega) ?_ h
  have hpe:=partsOk_spec (a:=a) (ev:=ev) parts.toList 0 z hp ht
  have hpe2:(parts.map fun (i,x)=>(i,a.eval x)).toList=(((z.map (ZP.val ev)).map (Value.int .i64)).zipIdx 0).map fun x=>(x.2,x.1):=by
   rw[Array.toList_map];exact hpe
  rw[hpe2,hsz];exact Great.fill_flat _ _ (fun v hv=>by obtain ⟨n,_,rfl⟩:=List.mem_map.1 hv;rfl) (by simp)
theorem emRow_at{ops:Array Oper}{out:List Nat}:∀ {items:List SpI} {E:List EmC} {r:Nat},emRow ops out r items E=true→∀ {j:Nat} {x:SpI},items[j]?=some x→∃e,E[j]?=some e∧∃p:Nat,((j=0∧p=r)∨∃j' x',j=j'+1∧items[j']?=some x'∧p=x'.q)∧
  (∃o f A,ops[x.c]?=some o∧callOf o.op=some (f,A)∧f=fnOf e.kind∧argsOk A p e x.s=true∧e.kind≤4∧o.dst=some x.q)∧slcOk ops out e.zp x.s=true∧(e.kind=0∨e.lt ∉ out)
 |[],_,_,_,j,x,hx=>by simp at hx
 |y :: r,[],_,h,j,x,hx=>by simp[emRow]at h
 |y :: ys,e :: es,r,h,j,x,hx=>by
  simp only[emRow,Bool.and_eq_true]at h;obtain ⟨⟨⟨h1,h2⟩,h4⟩,h3⟩:=h
  cases j with
  |zero=>
   simp at hx;subst hx;refine ⟨e,rfl,r,.inl ⟨rfl,rfl⟩,?_,h2,?_⟩
   ·cases ho:ops[y.c]? with
    |none=>rw[ho]at h1;cases h1
    |some o=>
     rw[ho]at h1;simp only[Bool.and_eq_true,beq_iff_eq]at h1;obtain ⟨h1,hd⟩:=h1
     cases hc:callOf o.op with
     |none=>rw[hc]at h1;cases h1
     |some p=>
      obtain ⟨f,A⟩:=p;rw[hc]at h1;simp only[Bool.and_eq_true,beq_iff_eq,decide_eq_true_eq]at h1;exact ⟨o,f,A,rfl,hc,h1.1.1,h1.1.2,h1.2,hd⟩
   ·simpa using h4
  |succ j=>
   obtain ⟨e',he',p,hp,r1,r2,r3⟩:=emRow_at h3 (j:=j) (by simpa using hx);refine ⟨e',by simpa using he',p,.inr ?_,r1,r2,r3⟩
   rcases hp with ⟨rfl,rfl⟩|⟨j',x',rfl,hx',rfl⟩
   ·exact ⟨0,y,rfl,rfl,rfl⟩
   ·exact ⟨j'+1,x',rfl,by simpa using hx',rfl⟩
def EmZ(ev:Nat→Int)(w0:World)(b:Nat)(v0:Value)(l:List Instr)(E:List EmC)(k:Nat)(w:World):Prop:=Chain w0 b 0 v0 (l++(E.take k).flatMap (EmC.code ev)) w
def EmB(ev:Nat→Int)(b:Nat)(E:List EmC)(j:Nat)(u:Value)(w:World):Prop:=∀e,E[j]?=some e→RowV w b (e.z ev) u
theorem em_spine(ev:Nat→Int){ops:Array Oper}{Q:Exit→Act→World→Prop}{S:World→Prop}{L0:Array Bool}{a0:Act}{items:List SpI}{E:List EmC}{r0 fuel:Nat}
  (hb:spB ops L0 items a0.tmps.size=true) (hrow:emRow ops (spTmps items) r0 items E=true) (hr0:(spTmps items).contains r0=false) (hptr:a0.eval (.tmp r0)=.pointer (some ⟨b,0,none⟩))
  (hlb:∀e∈E,e.kind=1∨e.kind=2→a0.eval (.tmp e.lt)=.string ⟨e.to.toArray⟩) (htv:∀e∈E,∀k,ZP.t k∈e.zp→a0.eval (.tmp k)=.int .i64 (ev k))
  (hmo:∀e∈E,e.kind=4→∃g c,a0.eval (.tmp e.lt)=.slice (some ⟨g,0,none⟩) e.more.length c∧e.more.length≤1000∧∀l' w',Chain w0 b 0 v0 l' w'→∀j u,(flat insV 0 e.more)[j]?=some u→w'.cell? ((⟨g,0,none⟩:Addr).add j)=some u)
  (hz2:(E.all fun e=>e.kind==0||e.kind==4||decide (e.zp.length≤2))=true) (hEl:items.length=E.length) (hl:l.length+(E.flatMap (EmC.code ev)).length≤1000000)
  (hS:∀w' l',Chain w0 b 0 v0 l' w'→S w') (C:Chain w0 b 0 v0 l w) (hfuel:decide (((List.range ops.size).filter fun i=>!L0.getD i true).length≤fuel)=true)
  (hend:∀(U:Nat→Value) w',Chain w0 b 0 v0 (l++E.flatMap (EmC.code ev)) w'→(∀(j:Nat) (x:SpI),items[j]?=some x→U x.q=.pointer (some ⟨b,0,none⟩))→Q .normal (patch (spTmps items) U a0) w') :
  wpAnyH Tryz.prog .any ops Q S fuel L0 a0 w:=by
 have hb':=hb;simp only[spB,Bool.and_eq_true,decide_eq_true_eq,List.all_eq_true,List.mem_range,Bool.or_eq_true]at hb';obtain ⟨⟨⟨⟨⟨F1,F2⟩,F3⟩,F6⟩,F7⟩,F8⟩:=hb'
 have hrl:∀(j:Nat) x,items[j]?=some x→j<E.length:=fun j x hx=>by rw[←hEl];exact (List.getElem?_eq_some_iff.1 hx).1
 refine spine_go (P:=Tryz.prog) (Z:=EmZ ev w0 b v0 l E) (B:=EmB ev b E) (ret:=fun _=>.pointer (some ⟨b,0,none⟩)) hb ?_ ?_ ?_ fuel L0 a0 w 0 ((List.range ops.size).filter fun i=>!L0.getD i true) ⟨F1,fun _ h=>h,rfl,rfl,fun _ _=>rfl,Nat.zero_le _,by simpa[EmZ]using C,fun j x hx=>⟨fun h=>?_,fun h=>absurd h (by omega)⟩,fun j x hx h=>absurd h (by omega),fun j x i t hx hs h=>?_⟩ (fun i hi h=>?_) ?_
 ·
  intro j x i t o k a w K hx hs ho hZ hout hK;obtain ⟨e,he,p,hp,hc,hsl,hlt⟩:=emRow_at hrow hx;unfold slcOk at hsl;rw[hs]at hsl;simp only[ho,Bool.and_eq_true,beq_iff_eq]at hsl;obtain ⟨hsl,hd⟩:=hsl
  split at hsl
  ·rename_i ty n parts hop
   simp only[Bool.and_eq_true,beq_iff_eq,decide_eq_true_eq]at hsl;obtain ⟨⟨⟨⟨⟨rfl,rfl⟩,g1⟩,g3⟩,gp⟩,go⟩:=hsl;refine wp_slc (ev:=ev) hop gp (fun k hk=>?_) g1 g3 ?_
   ·have hnk:k ∉ spTmps items:=fun hm=>by
     have:=List.all_eq_true.1 go _ hk;simp only[Bool.not_eq_true',List.contains_eq_mem,decide_eq_false_iff_not]at this;exact this hm
    rw[hout _ hnk];exact htv e (List.mem_of_getElem? he) k hk
   rw[hd];have hZ':Chain w0 b 0 v0 _ w:=hZ;refine hK _ _ (hZ'.quiet ((Mod.refl _ _).alloc _)) (hS _ _ (hZ'.quiet ((Mod.refl _ _).alloc _))) (fun e' he'=>?_) fun j' u' hB e' he'=>?_
   ·obtain rfl:e=e':=Option.some.inj (he.symm.trans he');exact ⟨w.heap.size,by simp[EmC.z],Row.fresh hZ' (e.z ev) _⟩
   ·obtain ⟨g,rfl,R⟩:=hB e' he';exact ⟨g,rfl,R.quiet hZ'.lt ((Mod.refl _ _).alloc _)⟩
  ·cases hsl
 ·
  intro j x o a w K hx ho hZ hdef hout hret hrw hK;obtain ⟨e,he,p,hp,⟨o',f,A,ho',hcall,rfl,hargs,hk2,hd⟩,hsl,hlt⟩:=emRow_at hrow hx;obtain rfl:o=o':=Option.some.inj (ho.symm.trans ho');have hZ':Chain w0 b 0 v0 _ w:=hZ
  have hpv:a.eval (.tmp p)=.pointer (some ⟨b,0,none⟩):=by
   rcases hp with ⟨rfl,rfl⟩|⟨j',x',rfl,hx',rfl⟩
   ·rw[hout _ (by intro h;rw[List.contains_iff_mem.2 h]at hr0;cases hr0)];exact hptr
   ·exact hret j' x' (by omega) hx'
  have hlab:e.kind=1∨e.kind=2→a.eval (.tmp e.lt)=.string ⟨e.to.toArray⟩:=fun hk=>by
   rw[hout _ (hlt.resolve_left (by omega))];exact hlb e (List.mem_of_getElem? he) hk
  have hslv:∀z,slOk z e x.s=true→SlV w b (e.z ev) (a.eval z):=fun z hz=>by
   unfold slOk at hz
   cases hs:x.s with
   |none=>
    rw[hs]at hz;simp only[Bool.and_eq_true,List.isEmpty_iff]at hz;rw[isNilRow_spec hz.2];exact .inl ⟨by simp[EmC.z,hz.1],rfl⟩
   |some it=>
    obtain ⟨i,t⟩:=it;rw[hs]at hz hsl;rw[isTmp_spec hz];refine .inr ⟨?_,hrw i t hs e he⟩;unfold slcOk at hsl;simp only at hsl
    cases ho2:ops[i]? with
    |none=>rw[ho2]at hsl;cases hsl
    |some o2=>
     rw[ho2]at hsl;simp only[Bool.and_eq_true,beq_iff_eq]at hsl;obtain ⟨hsl,_⟩:=hsl
     split at hsl
     ·simp only[Bool.and_eq_true,beq_iff_eq,decide_eq_true_eq]at hsl;have h3:=hsl.1.1.1.2;have h4:=hsl.1.1.2;simp only[EmC.z,List.length_map];omega
     ·cases hsl
  have hz2':e.kind≠0→e.kind≠4→(e.z ev).length≤2:=fun hk hk3=>by
   have:=List.all_eq_true.1 hz2 e (List.mem_of_getElem? he);simp only[Bool.or_eq_true,beq_iff_eq,decide_eq_true_eq]at this;have h:=this.resolve_left (fun h=>h.elim hk hk3)
   simpa[EmC.z]using h
  have hjl:=hrl j x hx
  have htake:(E.take (j+1)).flatMap (EmC.code ev)=(E.take j).flatMap (EmC.code ev)++e.code ev:=by
   rw[List.take_add_one,he];simp
  have hll:(l++(E.take j).flatMap (EmC.code ev)).length≤1000000:=by
   have h1:((E.take j).flatMap (EmC.code ev)).length≤(E.flatMap (EmC.code ev)).length:=by
    have h2:E.flatMap (EmC.code ev)=(E.take j).flatMap (EmC.code ev)++(E.drop j).flatMap (EmC.code ev):=by
     rw[←List.flatMap_append,List.take_append_drop]
    rw[h2,List.length_append];omega
   rw[List.length_append];omega
  obtain ⟨v1,C1,hv1,-,hk1⟩:=hZ'.re (Mod.refl noF w)
  have fin:∀w',Chain w b 0 v1 ((l++(E.take j).flatMap (EmC.code ev))++e.code ev) w'→∃v,Ending.returned (.pointer (some ⟨b,0,none⟩))=.returned v∧K (a.put o.dst v) w':=fun w' hC=>by
   refine ⟨_,rfl,?_⟩;rw[hd];have hC0:=hk1 _ _ hC;refine hK w' ?_ (hS _ _ hC0) fun j' u' hB e' he'=>?_
   ·show Chain w0 b 0 v0 _ w';rw[htake,←List.append_assoc];exact hC0
   ·obtain ⟨g,rfl,R⟩:=hB e' he';exact ⟨g,rfl,R.next hv1 hC⟩
  unfold argsOk at hargs
  split at hargs
  ·rename_i hk hA
   simp only[Bool.and_eq_true,List.isEmpty_iff]at hargs;obtain ⟨⟨⟨h1,h2⟩,h3⟩,h4⟩:=hargs;rw[hk]at hcall;refine wp_callOf callEmOp hcall ?_
   rename_i y1 y2 y3
   have hA':A=#[y1,y2,y3]:=Array.ext' (by simpa using hA);subst hA';simp only[List.map_toArray,List.map_cons,List.map_nil,isTmp_spec h1,isStr_spec h2,hpv];refine (em_op C1 hll e.n (hslv _ h3)).mono ?_;rintro e' w' ⟨rfl,hC⟩
   have:e.code ev=[⟨e.n,(e.z ev).getD 0 0,(e.z ev).getD 1 0,(e.z ev).getD 2 0,[]⟩]:=by unfold EmC.code EmC.ins;rw[if_neg (by omega),h4]
   exact fin w' (by rw[this];exact hC)
  ·rename_i hk hA
   simp only[Bool.and_eq_true]at hargs;obtain ⟨⟨⟨h1,h2⟩,h3⟩,h4⟩:=hargs;rw[hk]at hcall;refine wp_callOf callEmTo hcall ?_
   rename_i y1 y2 y3 y4
   have hA':A=#[y1,y2,y3,y4]:=Array.ext' (by simpa using hA);subst hA';simp only[List.map_toArray,List.map_cons,List.map_nil,isTmp_spec h1,isTmp_spec h2,isStr_spec h3,hpv,hlab (by omega)];refine (em_to C1 hll e.n (hslv _ h4) (hz2' (by omega) (by omega)) e.to).mono ?_;rintro e' w' ⟨rfl,hC⟩
   have:e.code ev=[⟨e.n,(e.z ev).getD 0 0,(e.z ev).getD 1 0,(e.z ev).getD 2 0,e.to⟩]:=by unfold EmC.code EmC.ins;rw[if_neg (by omega)]
   exact fin w' (by rw[this];exact hC)
  ·rename_i hk hA
   simp only[Bool.and_eq_true,List.isEmpty_iff,beq_iff_eq]at hargs;obtain ⟨⟨⟨⟨h1,h2⟩,h3⟩,h4⟩,h5⟩:=hargs;clear h5;rw[hk]at hcall;refine wp_callOf callEmLabel hcall ?_
   rename_i y1 y2
   have hA':A=#[y1,y2]:=Array.ext' (by simpa using hA);subst hA';simp only[List.map_toArray,List.map_cons,List.map_nil,isTmp_spec h1,isTmp_spec h2,hpv,hlab (by omega)];refine (label_chain C1 hll e.to _ rfl).mono ?_;rintro e' w' ⟨rfl,hC⟩
   have:e.code ev=[⟨17,0,0,0,e.to⟩]:=by unfold EmC.code EmC.ins EmC.z;rw[if_neg (by omega),h3,h4];rfl
   exact fin w' (by rw[this];exact hC)
  ·rename_i hk hA
   simp only[Bool.and_eq_true]at hargs;obtain ⟨⟨h1,h2⟩,h3⟩:=hargs;rw[hk]at hcall;refine wp_callOf callEmMore hcall ?_
   rename_i y1 y2
   have hA':A=#[y1,y2]:=Array.ext' (by simpa using hA);subst hA';obtain ⟨g,c,m1,m2,m3⟩:=hmo e (List.mem_of_getElem? he) hk
   have hml:a.eval (.tmp e.lt)=.slice (some ⟨g,0,none⟩) e.more.length c:=by
    rw[hout _ (hlt.resolve_left (by omega))];exact m1
   simp only[List.map_toArray,List.map_cons,List.map_nil,isTmp_spec h1,isTmp_spec h2,hpv,hml];refine (more_chain C1 hll e.more g c (m3 _ _ hZ') m2).mono ?_;rintro e' w' ⟨rfl,hC⟩
   have:e.code ev=e.more:=by unfold EmC.code;rw[if_pos hk]
   exact fin w' (by rw[this];exact hC)
  ·cases hargs
 ·intro a w hZ hdef hsz hout hret;have h:=hend (fun t=>a.eval (.tmp t)) w (by have:EmZ ev w0 b v0 l E items.length w:=hZ;unfold EmZ at this;rw[hEl,List.take_length]at this;exact this) hret;rw[patch_self _ _ _ hdef hsz hout]at h;exact h
 ·have:=F3 x.c (mem_spIdx.2 ⟨j,x,hx,x.c_mem⟩);rw[h]at this;cases this
 ·have:=F3 i (mem_spIdx.2 ⟨j,x,hx,SpI.i_mem hs⟩);rw[h]at this;cases this
 ·rw[List.mem_filter];exact ⟨List.mem_range.2 hi,by rw[h];rfl⟩
 ·exact of_decide_eq_true hfuel
end Mk
end
section
open Go.RowKit Qs Qh
structure Mkr(w:World)(b:Nat)(v:Value)(l:List Instr)(k:Nat):Prop where
 emit:Emit insT w b 0 v l
 cnt:w.cell? ⟨b,4,none⟩=some (.int .i64 k)
 free:w.frozen? ⟨b,4,none⟩=false
structure MkStep(w:World)(b:Nat)(v:Value)(w':World)(v':Value):Prop where
 mod:Mod (fun k=>k=b∨v.ownBlock=some k) w w'
 new:∀g,v'.ownBlock=some g→v.ownBlock=some g∨w.heap.size≤g
variable {w w1 w2:World}{b k:Nat}{v v1 v2:Value}{l:List Instr}
theorem MkStep.refl(w:World)(b:Nat)(v:Value):MkStep w b v w v:=⟨Mod.refl _ _,fun _ h=>.inl h⟩
theorem MkStep.trans(hb:b<w.heap.size)(h:MkStep w b v w1 v1)(h2:MkStep w1 b v1 w2 v2):MkStep w b v w2 v2:=by
 refine ⟨h.mod.trans h2.mod fun x hx hf=>?_,fun g hg=>?_⟩
 ·rcases hf with e|e
  ·exact .inl e
  ·rcases h.new x e with e'|e'
   ·exact .inr e'
   ·omega
 ·rcases h2.new g hg with e|e
  ·exact h.new g e
  ·have:=h.mod.size;exact .inr (by omega)
theorem Mkr.quiet(M:Mkr w b v l k)(h:Mod noF w w1):Mkr w1 b v l k:=
 ⟨M.emit.quiet h,h.cell M.cnt (fun e=>e),frozen_keep h M.emit.lt (fun e=>e) M.free⟩
theorem MkStep.quiet(h:MkStep w b v w1 v1)(h2:Mod noF w1 w2):MkStep w b v w2 v1:=
 ⟨h.mod.trans0 h2,h.new⟩
theorem Mkr.chain(M:Mkr w b v l k){l':List Instr}(C:Chain w b 0 v l' w1):∃v',Mkr w1 b v' l' k∧MkStep w b v w1 v':=by
 obtain ⟨hb,v',E,G⟩:=C;exact ⟨v',⟨E,G.cells 4 _ (by omega) M.cnt,G.free 4 M.free⟩,G.mod,G.new⟩
theorem Mkr.tick(M:Mkr w b v l k)(n:Nat):Mkr (w.setCell ⟨b,4,none⟩ (.int .i64 n)) b v l n∧MkStep w b v (w.setCell ⟨b,4,none⟩ (.int .i64 n)) v:=by
 have hM:Mod (fun k=>k=b) w (w.setCell ⟨b,4,none⟩ (.int .i64 n)):=(Mod.refl (fun k=>k=b) w).setCell (fun _=>rfl) _;refine ⟨⟨⟨?_,?_,M.emit.row.keep hM fun g hg e=>M.emit.ne g hg e,M.emit.ne,Nat.lt_of_lt_of_le M.emit.lt hM.size⟩,?_,?_⟩,hM.mono fun k _ h=>.inl h,fun _ h=>.inl h⟩
 ·rw[World.cell?_setCell_other _ _ _ _ (fun e=>by simpa using congrArg Addr.off e)];exact M.emit.cell
 ·rw[World.frozen?_setCell];exact M.emit.free
 ·exact World.cell?_setCell_same w _ _ M.cnt
 ·rw[World.frozen?_setCell];exact M.free
end
section
open Go.RowKit Qs Qh
def thrV(cv:Nat→Value)(rb:Nat→Nat)(i:Nat)(_:Unit):List Value:=[cv i,.slice (some ⟨rb i,0,none⟩) 8 8,iv 0]
def thrFlat(cv:Nat→Value)(rb:Nat→Nat)(k:Nat):List Value:=flat (thrV cv rb) 0 (List.replicate k ())
theorem flat_snoc_unit(f:Nat→Unit→List Value):∀(k s:Nat),flat f s (List.replicate (k+1) ())=flat f s (List.replicate k ())++f (s+k) ()
 |0,s=>by simp[flat]
 |k+1,s=>by
  rw[List.replicate_succ,flat,flat_snoc_unit f k (s+1)];rw[show List.replicate (k+1) ()=() :: List.replicate k ()from rfl,flat,List.append_assoc];rw[show s+1+k=s+(k+1)from by omega]
theorem thrFlat_succ(cv:Nat→Value)(rb:Nat→Nat)(k:Nat):thrFlat cv rb (k+1)=thrFlat cv rb k++[cv k,.slice (some ⟨rb k,0,none⟩) 8 8,iv 0]:=by
 unfold thrFlat;rw[flat_snoc_unit];simp[thrV]
theorem thrFlat_congr{cv:Nat→Value}{rb rb':Nat→Nat}{k:Nat}(h:∀i,i<k→rb i=rb' i):thrFlat cv rb k=thrFlat cv rb' k:=by
 refine flat_congr2 _ _ 0 rfl fun i x y h1 _=>?_
 have:i<k:=by have:=(List.getElem?_eq_some_iff.1 h1).1;simpa using this
 simp[thrV,h i this]
structure ThrRel(W:World)(S bs b0 bm:Nat)(iw rw_:Value)(n:Nat)(L:Lay)(m1:M)(regs:List (List Int))(cv:Nat→Value)(k:Nat)(v:Value)(rb:Nat→Nat)(wr:World):Prop where
 rep:Rep ty memK wr L m1
 below:Below W.heap.size W wr
 size:S≤wr.heap.size
 mach:wr.heap[b0]?=some (.cells #[.pointer (some ⟨bm,0,none⟩),v,.slice none 0 0,.int .i64 0] 51 (0,0))
 box:wr.heap[bs]?=some (.cells #[.int .i64 n,iw,rw_] 40 (0,0))
 row:wr.ownsRow 0 73 3 v k (thrFlat cv rb k)
 vown:∀g,v.ownBlock=some g→S≤g
 regs_:∀i,i<k→wr.heap[rb i]?=some (.cells ((pad 8 (regs.getD i [])).map (Value.int .i64)).toArray 3 (0,0))
 rbs:∀i,i<k→S≤rb i
 inj:∀i j,i<k→j<k→rb i=rb j→i=j
 vne:∀g i,v.ownBlock=some g→i<k→g≠rb i
theorem ThrRel.next{W wr w3 w4:World}{S bs b0 bm n k:Nat}{iw rw_ v v4:Value}{L:Lay}{m1:M}{regs:List (List Int)}{cv:Nat→Value}{rb:Nat→Nat}
  (h:ThrRel W S bs b0 bm iw rw_ n L m1 regs cv k v rb wr) (hW:W.heap.size≤b0) (hWS:W.heap.size≤S) (hb0:b0<S) (hbs:bs<S) (hbb:bs≠b0) (hfS:∀j,Foot ty memK L m1 j→j<S∧j≠b0)
  (hM3:Mod noF wr w3) {r:Nat} (hr0:wr.heap.size≤r) (hr:w3.heap[r]?=some (.cells ((pad 8 (regs.getD k [])).map (Value.int .i64)).toArray 3 (0,0)))
  (hown:w4.ownsRow 0 73 3 v4 (k+1) (thrFlat cv rb k++[cv k,.slice (some ⟨r,0,none⟩) 8 8,iv 0])) (hg:w3.grownBy w4 v.ownBlock) (hfr:∀g,v4.ownBlock=some g→v.ownBlock=some g∨w3.heap.size≤g) :
  ThrRel W S bs b0 bm iw rw_ n L m1 regs cv (k+1) v4 (fun i=>if i=k then r else rb i) (w4.setCell ⟨b0,1,none⟩ v4):=by
 have hlt3:=lt_of_block hr;have hsz:=h.size;have hM4:Mod (fun x=>v.ownBlock=some x) wr w4:=hM3.any.grown hg fun j hj _=>hj;have hM4b:Mod (fun x=>v.ownBlock=some x) w3 w4:=(Mod.refl (fun x=>v.ownBlock=some x) w3).grown hg fun j hj _=>hj
 have hnb0:¬v.ownBlock=some b0:=fun e=>by have:=h.vown _ e;omega
 have hM5:Mod (fun x=>x=b0) w4 (w4.setCell ⟨b0,1,none⟩ v4):=(Mod.refl (fun x=>x=b0) w4).setCell (fun _=>rfl) v4;have hM:Mod (fun x=>v.ownBlock=some x∨x=b0) wr (w4.setCell ⟨b0,1,none⟩ v4):=(hM4.mono fun x _ hx=>.inl hx).trans hM5 fun x _ hx=>.inr hx
 have hv4:∀g,v4.ownBlock=some g→S≤g∧g≠b0:=fun g hg4=>by
  rcases hfr g hg4 with e|e
  ·have:=h.vown g e;exact ⟨this,by omega⟩
  ·have:=hM3.size;exact ⟨by omega,by omega⟩
 have hrb:thrFlat cv rb k=thrFlat cv (fun i=>if i=k then r else rb i) k:=thrFlat_congr fun i hi=>by rw[if_neg (by omega)]
 refine ⟨?_,?_,?_,?_,?_,?_,?_,?_,?_,?_,?_⟩
 ·exact h.rep.frame hM fun j hj hx=>by
   have:=hfS j hj
   rcases hx with e|e
   ·have:=h.vown j e;omega
   ·exact this.2 e
 ·exact h.below.trans (hM.under h.below.size fun j hj=>by
   rcases hj with e|e
   ·have:=h.vown j e;omega
   ·omega)
 ·have:=hM.size;omega
 ·rw[Qh.heap_setCell_same (hM4.heap h.mach hnb0)];simp
 ·exact hM.heap h.box (fun e=>by
   rcases e with e|e
   ·have:=h.vown _ e;omega
   ·exact hbb e)
 ·rw[thrFlat_succ,←hrb];simp only[if_true];exact ownsRow_setCell_other hown (fun hx=>(hv4 _ hx).2 rfl) _
 ·exact fun g hg4=>(hv4 g hg4).1
 ·intro i hi
  by_cases e:i=k
  ·subst e;simp only[if_true];have h1:=hM4b.heap hr (fun e=>by have:=World.ownsRow.lt h.row _ e;omega);exact hM5.heap h1 (by omega)
  ·simp only[if_neg e]
   exact hM.heap (h.regs_ i (by omega)) (fun hx=>by
    rcases hx with e1|e1
    ·exact h.vne _ i e1 (by omega) rfl
    ·have:=h.rbs i (by omega);omega)
 ·intro i hi
  by_cases e:i=k
  ·simp only[if_pos e];omega
  ·simp only[if_neg e];exact h.rbs i (by omega)
 ·intro i j hi hj hij
  by_cases e1:i=k <;> by_cases e2:j=k
  ·omega
  ·simp only[if_pos e1,if_neg e2]at hij;have:=lt_of_block (h.regs_ j (by omega));omega
  ·simp only[if_neg e1,if_pos e2]at hij;have:=lt_of_block (h.regs_ i (by omega));omega
  ·simp only[if_neg e1,if_neg e2]at hij;exact h.inj i j (by omega) (by omega) hij
 ·intro g i hg4 hi
  by_cases e:i=k
  ·simp only[if_pos e]
   rcases hfr g hg4 with e1|e1
   ·have:=(World.ownsRow.lt h.row _ e1).2;omega
   ·omega
  ·simp only[if_neg e]
   rcases hfr g hg4 with e1|e1
   ·exact h.vne g i e1 (by omega)
   ·have:=lt_of_block (h.regs_ i (by omega));have:=hM3.size;omega
def startM(n:Nat)(init regs:List (List Int))(codes:List (List Instr)):M:=
 ⟨(List.range n).map (cellC init init.length),List.replicate codes.length [],codes.mapIdx fun i c=>⟨c,pad 8 (regs.getD i []),0⟩,[],0⟩
end
end Go.Proofs.YtppihkneeolomaaGreatDoor
section
namespace Qh
open Go Go.RowKit Qs
def machL(L:Lay)(b0 g:Nat)(rb:Nat→Nat)(sp:Nat)(jk:List Value)(cv:Nat→Value):Lay where
 blk a i:=match a with|0=>b0|4=>g|8=>rb i|_=>L.blk a i
 nil a i:=match a with|4=>false|8=>false|5=>true|_=>L.nil a i
 sp a i:=match a with|4=>sp|8=>0|5=>0|_=>L.sp a i
 junk a i:=match a with|4=>jk|8=>[]|5=>[]|_=>L.junk a i
 code:=cv
variable {L:Lay}{b0 g:Nat}{rb:Nat→Nat}{sp:Nat}{jk:List Value}{cv:Nat→Value}
theorem machL_obj(τ : Ty)(m:M)(T:List Thr)(mk:List (Int × Int))(f:Int){a:Nat}(h:memK a=true)(i:Nat):obj τ (machL L b0 g rb sp jk cv) {m with T:=T,marks:=mk,faults:=f} a i=obj τ L m a i:=by
 simp only[memK,Bool.or_eq_true,beq_iff_eq]at h
 rcases h with (((rfl|rfl)|rfl)|rfl)|rfl <;> rfl
theorem machL_blk{a:Nat}(h:memK a=true)(i:Nat):(machL L b0 g rb sp jk cv).blk a i=L.blk a i:=by
 simp only[memK,Bool.or_eq_true,beq_iff_eq]at h
 rcases h with (((rfl|rfl)|rfl)|rfl)|rfl <;> rfl
theorem machL_cases(τ : Ty)(m:M){a i:Nat}(h:(obj τ (machL L b0 g rb sp jk cv) m a i).isSome):(memK a=true)∨(a=0∧i=0)∨(a=4∧i=0)∨(a=8∧i<m.T.length):=by
 match a with
 |0=>simp only[obj]at h;split at h <;> simp_all
 |1=>exact .inl rfl
 |2=>exact .inl rfl
 |3=>exact .inl rfl
 |4=>simp only[obj]at h;split at h <;> simp_all
 |5=>simp[obj,machL]at h
 |6=>exact .inl rfl
 |7=>exact .inl rfl
 |8=>
  right;right;right;refine ⟨rfl,?_⟩
  rcases Nat.lt_or_ge i m.T.length with h'|h'
  ·exact h'
  ·simp[obj,machL,List.getElem?_eq_none h']at h
 |n+9=>simp[obj]at h
end Qh
namespace Go.Proofs.YtppihkneeolomaaGreatDoor
open Go.RowKit Qs Qh
theorem startM_T{n:Nat}{init regs:List (List Int)}{codes:List (List Instr)}{i:Nat}{c:List Instr}(h:codes[i]?=some c):(startM n init regs codes).T[i]?=some ⟨c,pad 8 (regs.getD i []),0⟩:=by
 simp[startM,h]
theorem startM_T'{n:Nat}{init regs:List (List Int)}{codes:List (List Instr)}{i:Nat}{h:Thr}(hh:(startM n init regs codes).T[i]?=some h):∃c,codes[i]?=some c∧h=⟨c,pad 8 (regs.getD i []),0⟩:=by
 simp only[startM,List.getElem?_mapIdx]at hh;obtain ⟨c,hc,rfl⟩:=Option.map_eq_some_iff.1 hh;exact ⟨c,hc,rfl⟩
theorem startM_len(n:Nat)(init regs:List (List Int))(codes:List (List Instr)):(startM n init regs codes).T.length=codes.length:=by simp[startM]
theorem ThrRel.machine{W wr:World}{S bs b0 bm n:Nat}{iw rw_ v:Value}{L:Lay}{init regs:List (List Int)}{codes:List (List Instr)}{cv:Nat→Value}{rb:Nat→Nat}
  (h:ThrRel W S bs b0 bm iw rw_ n L (preM n codes.length init init.length) regs cv codes.length v rb wr) (hW:W.heap.size≤b0) (hWS:W.heap.size≤S) (hb0:b0<S)
  (hfS:∀j,Foot ty memK L (preM n codes.length init init.length) j→W.heap.size≤j∧j<S∧j≠b0) (ol:OkL L (preM n codes.length init init.length)) (htop:L.blk 1 0=bm)
  (h1:1≤n) (hn:n≤64) (hc1:1≤codes.length) (hc6:codes.length≤6) (hi:RowsFine 4 init) (hr:RowsFine 8 regs) (hf:∀c∈codes,CodeFine c)
  (hcv:∀(i:Nat) c,codes[i]?=some c→CodeAt wr (cv i) c∧∀g,(cv i).ownBlock=some g→g<W.heap.size) :
  ∃L',Mach ty wr L' (startM n init regs codes) 1∧L'.blk 0 0=b0∧∀j,Foot ty allK L' (startM n init regs codes) j→W.heap.size≤j:=by
 rcases h.row.2 with ⟨_,e⟩|⟨g,cap,cur,rfl,_,hg,hk,hcm,hcs,htake⟩
 ·omega
 have hgS:S≤g:=h.vown g rfl
 have hcur:cur.toList=thrFlat cv rb codes.length++cur.toList.drop (codes.length*3):=by
  conv=>lhs;rw[←List.take_append_drop (codes.length*3) cur.toList]
  rw[htake]
 have hmem:startM n init regs codes = {(preM n codes.length init init.length)with T:=(startM n init regs codes).T,marks:=[],faults:=0}:=rfl;refine ⟨machL L b0 g rb (cap - codes.length) (cur.toList.drop (codes.length*3)) cv,⟨⟨?_,?_⟩,?_,?_,?_,?_,?_⟩,rfl,?_⟩
 ·intro a i cs T hK ho
  rcases machL_cases ty _ (by rw[ho];rfl)with hm|⟨rfl,rfl⟩|⟨rfl,rfl⟩|⟨rfl,hi8⟩
  ·rw[hmem,machL_obj ty _ _ _ _ hm]at ho;rw[machL_blk hm];exact h.rep.at_ a i cs T hm ho
  ·rw[obj0]at ho;cases ho;refine Eq.trans h.mach ?_;simp only[Lay.row,machL,startM_len,htop]
   have:codes.length+(cap - codes.length)=cap:=by omega
   rw[this];rfl
  ·rw[obj4 ty _ rfl]at ho;cases ho;refine Eq.trans hg ?_
   congr 2
   apply Array.toList_inj.1;refine Eq.trans hcur ?_;simp only[machL]
   congr 1
   refine flat_congr2 _ _ 0 (by simp[startM]) fun i x y g1 g2=>?_;obtain ⟨c,hc,rfl⟩:=startM_T' g2;have e8:=pad_len (hr.getD i).1;simp only[thrV,thrVals,Nat.zero_add];rw[e8];rfl
  ·obtain ⟨c,hc⟩:∃c,codes[i]?=some c:=⟨_,List.getElem?_eq_getElem (by rw[startM_len]at hi8;exact hi8)⟩;rw[obj8 ty rfl (startM_T hc)]at ho;cases ho;have:=h.regs_ i (by rw[startM_len]at hi8;exact hi8);refine Eq.trans this ?_;simp only[machL,List.append_nil];rfl
 ·intro a i b j _ _ ha hb he
  have hz:∀a i,memK a=true→(obj ty (machL L b0 g rb (cap - codes.length) (cur.toList.drop (codes.length*3)) cv) (startM n init regs codes) a i).isSome→W.heap.size≤L.blk a i∧L.blk a i<S∧L.blk a i≠b0:=fun a i hm hs=>by
   rw[hmem,machL_obj ty _ _ _ _ hm]at hs;exact hfS _ ⟨a,i,hm,hs,rfl⟩
  have hrS:∀i,i<(startM n init regs codes).T.length→S≤rb i:=fun i hi8=>h.rbs i (by rw[startM_len]at hi8;exact hi8)
  rcases machL_cases ty _ ha with hma|⟨rfl,rfl⟩|⟨rfl,rfl⟩|⟨rfl,hi8⟩ <;> rcases machL_cases ty _ hb with hmb|⟨rfl,rfl⟩|⟨rfl,rfl⟩|⟨rfl,hj8⟩
  ·rw[machL_blk hma,machL_blk hmb]at he;rw[hmem,machL_obj ty _ _ _ _ hma]at ha;rw[hmem,machL_obj ty _ _ _ _ hmb]at hb;exact h.rep.inj a i b j hma hmb ha hb he
  ·have:=hz a i hma ha;rw[machL_blk hma]at he;exact absurd he this.2.2
  ·have:=hz a i hma ha;rw[machL_blk hma]at he;have e2:L.blk a i=g:=he;omega
  ·have:=hz a i hma ha;rw[machL_blk hma]at he;have e2:L.blk a i=rb j:=he;have:=hrS j hj8;omega
  ·have:=hz b j hmb hb;rw[machL_blk hmb]at he;exact absurd he.symm this.2.2
  ·exact ⟨rfl,rfl⟩
  ·have e2:b0=g:=he;omega
  ·have e2:b0=rb j:=he;have:=hrS j hj8;omega
  ·have:=hz b j hmb hb;rw[machL_blk hmb]at he;have e2:g=L.blk b j:=he;omega
  ·have e2:g=b0:=he;omega
  ·exact ⟨rfl,rfl⟩
  ·exact absurd he (h.vne g j rfl (by rw[startM_len]at hj8;exact hj8))
  ·have:=hz b j hmb hb;rw[machL_blk hmb]at he;have e2:rb i=L.blk b j:=he;have:=hrS i hi8;omega
  ·have e2:rb i=b0:=he;have:=hrS i hi8;omega
  ·exact absurd he.symm (h.vne g i rfl (by rw[startM_len]at hi8;exact hi8))
  ·exact ⟨rfl,h.inj i j (by rw[startM_len]at hi8;exact hi8) (by rw[startM_len]at hj8;exact hj8) he⟩
 ·have:=preM_ok (i:=init.length) h1 hn hc6 hi;exact ⟨this.cells1,this.cells,this.words,this.times,this.waits,this.wlen,this.wval,this.N0⟩
 ·exact ⟨ol.n2,ol.n3,ol.n6,ol.n7,ol.sp2,ol.sp3,ol.sp7,ol.j7⟩
 ·refine ⟨by simp[startM],by rw[startM_len];exact hc1,?_,?_,by simp[startM],by simp[startM]⟩
  ·intro t x hx;obtain ⟨c,hc,rfl⟩:=startM_T' hx;exact ⟨pad_len (hr.getD t).1,pad_word (hr.getD t).2⟩
  ·intro t x hx;obtain ⟨c,hc,rfl⟩:=startM_T' hx;exact ⟨Nat.zero_le _,(hf c (List.mem_of_getElem? hc)).ok⟩
 ·refine ⟨rfl,fun _ _=>rfl,fun _=>rfl,?_,(fun _ _=>by simp[machL]),(fun e=>by cases e),rfl⟩;rw[startM_len];simp only[machL];omega
 ·intro t x hx;obtain ⟨c,hc,rfl⟩:=startM_T' hx;obtain ⟨h1,h2⟩:=hcv t c hc;refine ⟨h1,fun b hb=>⟨fun hfo=>?_,Nat.lt_of_lt_of_le (h2 b hb) h.below.size⟩⟩;have hbW:=h2 b hb;obtain ⟨a,i,_,hs,e⟩:=hfo
  rcases machL_cases ty _ hs with hm|⟨rfl,rfl⟩|⟨rfl,rfl⟩|⟨rfl,hi8⟩
  ·rw[machL_blk hm]at e;rw[hmem,machL_obj ty _ _ _ _ hm]at hs;have:=hfS _ ⟨a,i,hm,hs,rfl⟩;omega
  ·have e2:b0=b:=e;omega
  ·have e2:g=b:=e;omega
  ·have e2:rb i=b:=e;have:=h.rbs i (by rw[startM_len]at hi8;exact hi8);omega
 ·intro b hfo;obtain ⟨a,i,_,hs,e⟩:=hfo
  rcases machL_cases ty _ hs with hm|⟨rfl,rfl⟩|⟨rfl,rfl⟩|⟨rfl,hi8⟩
  ·rw[machL_blk hm]at e;rw[hmem,machL_obj ty _ _ _ _ hm]at hs;have:=hfS _ ⟨a,i,hm,hs,rfl⟩;omega
  ·have e2:b0=b:=e;omega
  ·have e2:g=b:=e;omega
  ·have e2:rb i=b:=e;have:=h.rbs i (by rw[startM_len]at hi8;exact hi8);omega
end Go.Proofs.YtppihkneeolomaaGreatDoor
end
namespace Go.Proofs.YtppihkneeolomaaGreatDoor
section
open Go.RowKit Qs Qh
theorem backStart_ok(n:Nat)(a b:Option Addr)(l1 c1 l2 c2:Nat)(w:World):Calls Tryz.prog 14 #[.agg #[.int .i64 n,.slice a l1 c1,.slice b l2 c2]] w fun e w'=>e=.returned (.agg #[.int .i64 n,.slice a l1 c1,.slice b l2 c2])∧Mod noF w w':=by
 go_enter Tryz.func14,Tryz.ntmps14
 go_wp2;exact bodyPost_ret (v:=.agg #[.int .i64 n,.slice a l1 c1,.slice b l2 c2]) (by simp[results,Tryz.results14,go_sem]) rfl ⟨rfl,((Mod.refl _ _).alloc _).alloc _⟩
end
section
open Go.RowKit Qs Qh
theorem z0_eq{n:Int}(h:z0 n=true):n=0:=by unfold z0 at h;simpa using h
theorem emp_eq{l:List UInt8}(h:l.isEmpty=true):l=[]:=List.isEmpty_iff.1 h
theorem name_size{to:List UInt8}(h:nameB to=true):(⟨to.toArray⟩:ByteArray).size≤maxLen:=by
 rw[←bytes_len]
 by_cases h12:12<to.length
 ·rw[nameB_len h12]at h;cases h
 ·show to.length≤maxLen;unfold maxLen;omega
theorem ie_ok(x:Instr)(h:insFine x=true)(w:World) :
  Calls Tryz.prog 81 #[.agg #[.string (opStr x.op),.int .i64 x.A,.int .i64 x.B,.int .i64 x.C,sv x.to]] w fun e w'=>e=.returned (.int .i64 0)∧Mod noF w w':=by
 obtain ⟨op,A,B,C,to⟩:=x
 rcases op_cases op with rfl|rfl|rfl|rfl|rfl|rfl|rfl|rfl|rfl|rfl|rfl|rfl|rfl|rfl|rfl|rfl|rfl|rfl|rfl|rfl|hbig
 ·simp only[insFine,Bool.and_eq_true]at h;obtain ⟨⟨⟨h1,h2⟩,h3⟩,h4⟩:=h;obtain ⟨g0,l0⟩:=regB_iff h1;obtain ⟨g1,l1⟩:=regB_iff h2;obtain rfl:=z0_eq h3;obtain rfl:=emp_eq h4;exact ie_rv _ A B w shape_const g0 l0 g1 l1
 ·simp only[insFine,Bool.and_eq_true]at h;obtain ⟨⟨⟨h1,h2⟩,h3⟩,h4⟩:=h;obtain ⟨g0,l0⟩:=regB_iff h1;obtain ⟨g1,l1⟩:=regB_iff h2;obtain rfl:=z0_eq h3;obtain rfl:=emp_eq h4;exact ie_rr _ A B w shape_move g0 l0 g1 l1
 ·simp only[insFine,Bool.and_eq_true]at h;obtain ⟨⟨⟨h1,h2⟩,h3⟩,h4⟩:=h;obtain ⟨g0,l0⟩:=regB_iff h1;obtain ⟨g1,l1⟩:=regB_iff h2;obtain ⟨g2,l2⟩:=regB_iff h3;obtain rfl:=emp_eq h4;exact ie_rrr _ A B C w shape_add g0 l0 g1 l1 g2 l2
 ·simp only[insFine,Bool.and_eq_true]at h;obtain ⟨⟨⟨h1,h2⟩,h3⟩,h4⟩:=h;obtain ⟨g0,l0⟩:=regB_iff h1;obtain ⟨g1,l1⟩:=regB_iff h2;obtain ⟨g2,l2⟩:=regB_iff h3;obtain rfl:=emp_eq h4;exact ie_rrr _ A B C w shape_sub g0 l0 g1 l1 g2 l2
 ·simp only[insFine,Bool.and_eq_true]at h;obtain ⟨⟨⟨h1,h2⟩,h3⟩,h4⟩:=h;obtain ⟨g0,l0⟩:=regB_iff h1;obtain ⟨g1,l1⟩:=regB_iff h2;obtain ⟨g2,l2⟩:=regB_iff h3;obtain rfl:=emp_eq h4;exact ie_rrr _ A B C w shape_and g0 l0 g1 l1 g2 l2
 ·simp only[insFine,Bool.and_eq_true]at h;obtain ⟨⟨⟨h1,h2⟩,h3⟩,h4⟩:=h;obtain ⟨g0,l0⟩:=regB_iff h1;obtain ⟨g1,l1⟩:=regB_iff h2;obtain ⟨g2,l2⟩:=regB_iff h3;obtain rfl:=emp_eq h4;exact ie_rrr _ A B C w shape_xor g0 l0 g1 l1 g2 l2
 ·simp only[insFine,Bool.and_eq_true]at h;obtain ⟨⟨⟨h1,h2⟩,h3⟩,h4⟩:=h;obtain ⟨g0,l0⟩:=regB_iff h1;obtain ⟨g1,l1⟩:=regB_iff h2;obtain ⟨g2,l2⟩:=regB_iff h3;obtain rfl:=emp_eq h4;exact ie_rrw _ A B C w shape_load g0 l0 g1 l1 g2 l2
 ·simp only[insFine,Bool.and_eq_true]at h;obtain ⟨⟨⟨h1,h2⟩,h3⟩,h4⟩:=h;obtain ⟨g0,l0⟩:=regB_iff h1;obtain ⟨g1,l1⟩:=regB_iff h2;obtain ⟨g2,l2⟩:=regB_iff h3;obtain rfl:=emp_eq h4;exact ie_rrw _ A B C w shape_store g0 l0 g1 l1 g2 l2
 ·simp only[insFine,Bool.and_eq_true]at h;obtain ⟨⟨⟨h1,h2⟩,h3⟩,h4⟩:=h;obtain ⟨g0,l0⟩:=regB_iff h1;obtain ⟨g1,l1⟩:=regB_iff h2;obtain ⟨g2,l2⟩:=regB_iff h3;obtain rfl:=emp_eq h4;exact ie_rrw _ A B C w shape_swap g0 l0 g1 l1 g2 l2
 ·simp only[insFine,Bool.and_eq_true]at h;obtain ⟨⟨⟨h1,h2⟩,h3⟩,h4⟩:=h;obtain ⟨g0,l0⟩:=regB_iff h1;obtain ⟨g1,l1⟩:=regB_iff h2;obtain ⟨g2,l2⟩:=regB_iff h3;obtain rfl:=emp_eq h4;exact ie_rsw _ A B C w shape_cas g0 l0 g1 l1 g2 l2
 ·simp only[insFine,Bool.and_eq_true]at h;obtain ⟨⟨⟨h1,h2⟩,h3⟩,h4⟩:=h;obtain ⟨g0,l0⟩:=regB_iff h1;obtain rfl:=z0_eq h2;obtain rfl:=z0_eq h3;obtain rfl:=emp_eq h4;exact ie_r _ A w shape_alloc g0 l0
 ·simp only[insFine,Bool.and_eq_true]at h;obtain ⟨⟨⟨h1,h2⟩,h3⟩,h4⟩:=h;obtain ⟨g0,l0⟩:=regB_iff h1;obtain rfl:=z0_eq h2;obtain rfl:=z0_eq h3;obtain rfl:=emp_eq h4;exact ie_r _ A w shape_free g0 l0
 ·simp only[insFine,Bool.and_eq_true]at h;obtain ⟨⟨⟨h1,h2⟩,h3⟩,h4⟩:=h;obtain rfl:=z0_eq h1;obtain rfl:=z0_eq h2;obtain rfl:=z0_eq h3;obtain rfl:=emp_eq h4;exact ie_none _ w shape_fence
 ·simp only[insFine,Bool.and_eq_true]at h;obtain ⟨⟨⟨h1,h2⟩,h3⟩,h4⟩:=h;obtain rfl:=z0_eq h1;obtain rfl:=z0_eq h2;obtain rfl:=z0_eq h3;obtain rfl:=emp_eq h4;exact ie_none _ w shape_force
 ·simp only[insFine,Bool.and_eq_true]at h;obtain ⟨⟨⟨h1,h2⟩,h3⟩,h4⟩:=h;obtain ⟨g0,l0⟩:=regB_iff h1;obtain rfl:=z0_eq h2;obtain rfl:=z0_eq h3;exact ie_rl _ A ⟨to.toArray⟩ w shape_zero g0 l0 (name_size h4) h4
 ·simp only[insFine,Bool.and_eq_true]at h;obtain ⟨⟨⟨h1,h2⟩,h3⟩,h4⟩:=h;obtain ⟨g0,l0⟩:=regB_iff h1;obtain ⟨g1,l1⟩:=regB_iff h2;obtain rfl:=z0_eq h3;exact ie_rrl _ A B ⟨to.toArray⟩ w shape_same g0 l0 g1 l1 (name_size h4) h4
 ·simp only[insFine,Bool.and_eq_true]at h;obtain ⟨⟨⟨h1,h2⟩,h3⟩,h4⟩:=h;obtain rfl:=z0_eq h1;obtain rfl:=z0_eq h2;obtain rfl:=z0_eq h3;exact ie_l _ ⟨to.toArray⟩ w shape_goto (name_size h4) h4
 ·simp only[insFine,Bool.and_eq_true]at h;obtain ⟨⟨⟨h1,h2⟩,h3⟩,h4⟩:=h;obtain rfl:=z0_eq h1;obtain rfl:=z0_eq h2;obtain rfl:=z0_eq h3;exact ie_l _ ⟨to.toArray⟩ w shape_label (name_size h4) h4
 ·simp only[insFine,Bool.and_eq_true]at h;obtain ⟨⟨⟨h1,h2⟩,h3⟩,h4⟩:=h;obtain ⟨g0,l0⟩:=regB_iff h1;obtain rfl:=z0_eq h2;obtain rfl:=z0_eq h3;obtain rfl:=emp_eq h4;exact ie_r _ A w shape_mark g0 l0
 ·simp only[insFine,Bool.and_eq_true]at h;obtain ⟨⟨⟨h1,h2⟩,h3⟩,h4⟩:=h;obtain ⟨g0,l0⟩:=regB_iff h1;obtain rfl:=z0_eq h2;obtain rfl:=z0_eq h3;obtain rfl:=emp_eq h4;exact ie_r _ A w shape_need g0 l0
 ·have he:op=20:=by
   have:=insOk_le (insFine_ok h);simp only at this;omega
  subst he;simp only[insFine,Bool.and_eq_true]at h;obtain ⟨⟨⟨h1,h2⟩,h3⟩,h4⟩:=h;obtain rfl:=z0_eq h1;obtain rfl:=z0_eq h2;obtain rfl:=z0_eq h3;obtain rfl:=emp_eq h4;exact ie_none _ w shape_stop
theorem fine_any(w:World):Calls Tryz.prog 41 #[] w fun e w'=>e=.returned (.agg #[.int .i64 0,.int .i64 (-1)])∧Mod noF w w':=by
 go_enter Tryz.func41,Tryz.ntmps41
 go_wp2;exact bodyPost_ret (v:=.agg #[.int .i64 0,.int .i64 (-1)]) (by simp[results,Tryz.results41,go_sem]) rfl ⟨rfl,(Mod.refl _ _).alloc _⟩
theorem codeFault_ok(v:Value)(l:List Instr)(w:World)(h:CodeAt w v l)(hf:CodeFine l) :
  Calls Tryz.prog 51 #[v] w fun e w'=>e=.returned (.agg #[.int .i64 0,.int .i64 (-1)])∧Mod noF w w':=by
 obtain ⟨a,c,rfl,hc,hx⟩:=h.at_;have hlen:=hf.len;have Hx:=Lib.hid hx;have Hf:=Lib.hid hf;have H:=Lib.hid h
 have hd2:decide ((2000:Int)<(l.length:Int))=false:=by simp;omega
 clear hx hf h
 go_enter Tryz.func51,Tryz.ntmps51
 go_wp2
 go_loopw [3,4] (fun i _ wr=>∃k:Nat,k≤l.length∧i=.int .i64 k∧Mod noF w wr∧wr.heap[w.heap.size]?=some (.cells #[.int .i64 0,.int .i64 0] 27 (0,0))) (fun i _ _=>l.length - (intOf i).toNat)
 case atStart=>exact ⟨0,Nat.zero_le _,rfl,(Mod.refl _ _).alloc _,heap_alloc_new w _⟩
 case round=>
  rename_i wr
  obtain ⟨k,hk,rfl,hmr,hres⟩:=hrel;have hsr:=lt_of_block hres;have Hmr:=Lib.hid hmr;have Hres:=Lib.hid hres;clear hmr hres
  by_cases hlt:k<l.length
  ·have hd:decide ((k:Int)<(l.length:Int))=true:=by simp;omega
   obtain ⟨x,hxk⟩:∃x,l[k]?=some x:=⟨_,List.getElem?_eq_getElem hlt⟩;obtain ⟨b,off,rfl,hb,hcell⟩:=Hx.out k x hxk;have hcr:∀j y,(instrVals x)[j]?=some y→wr.cell? ⟨b,off+k*5+j,none⟩=some y:=fun j y hj=>Hmr.out.cell (hcell j y hj) (fun e=>e);have hie:=ie_ok x (Hf.out.ins x (List.mem_of_getElem? hxk)) wr
   have hmem:x∈l:=List.mem_of_getElem? hxk;have hset:=Hf.out.set k x hxk;have hlab:=Hf.out.lab x hmem;have hfx:=Hf.out.ins x hmem;have c0:=hcr 0 _ rfl;have c1:=hcr 1 _ rfl;have c2:=hcr 2 _ rfl;have c3:=hcr 3 _ rfl;have c4:=hcr 4 _ rfl;simp only[Nat.add_zero,iv,sv]at c0 c1 c2 c3 c4;unfold sv at hie
   have hlabel:∀W,Mod noF w W→Calls Tryz.prog 82 #[.slice (some ⟨b,off,none⟩) l.length c,.string ⟨x.to.toArray⟩] W fun e w'=>e=.returned (.int .i64 (labE x.to l))∧W=w':=fun W hW=>
    labelAt_any _ c l x.to W (by omega) fun i y hi=>by
     obtain ⟨b',off',e,hb',hc'⟩:=Hx.out i y hi;exact ⟨b',off',e,Nat.lt_of_lt_of_le hb' hW.size,fun j u hj=>hW.cell (hc' j u hj) (fun e=>e)⟩
   have Hie:=Lib.hid hie;have Hlabel:=Lib.hid hlabel;have Hset:=Lib.hid hset;have Hlab:=Lib.hid hlab;have Hfx:=Lib.hid hfx;have Hxk:=Lib.hid hxk;clear hxk hcell hcr hie hlabel hset hlab hfx hmem
   by_cases h17:x.op=17
   ·have hs:opStr x.op=⟨#[108,97,98,101,108]⟩:=by rw[h17];rfl
    have hE:labE x.to l=(k:Int):=by unfold labE;rw[Hset.out h17]
    have hne:=nameB_ne (insFine_jump Hfx.out (.inr (.inr (.inr h17))));rw[hs]at c0 Hie;rw[hE]at Hlabel;generalize hd4:(⟨x.to.toArray⟩:ByteArray)=d at *
    have e1:d.toList.isEmpty=false:=by rw[←hd4,bytes_list];exact List.isEmpty_eq_false_iff.2 hne
    have e2:¬d.toList=[]:=by rw[←hd4,bytes_list];exact hne
    clear hs hE hne h17 hd4
    go_wp2_with fail
    refine Hie.out.mono ?_;rintro e w1 ⟨rfl,hm1⟩;have hres1:=hm1.heap Hres.out (fun e=>e);have b0:w1.cell? ⟨b,off+k*5,none⟩=some (.string ⟨#[108,97,98,101,108]⟩):=hm1.cell c0 (fun e=>e);have b4:=hm1.cell c4 (fun e=>e);have hmw:=Hmr.out.trans0 hm1
    have hb1:b<w1.heap.size:=Nat.lt_of_lt_of_le hb hmw.size;have Hmw:=Lib.hid hmw;have Hres1:=Lib.hid hres1;clear hm1 hres1 hmw c0 c1 c2 c3 c4
    go_wp2_with (go_at_call 82;refine (Hlabel.out _ Hmw.out).mono ?_;rintro e w' ⟨rfl,rfl⟩)
    go_roundw
    case rel=>exact ⟨k+1,by omega,by go_num,Hmw.out,Hres1.out⟩
    case measure=>simp[intOf];omega
   ·have hsl:¬(opStr x.op).toList=[108,97,98,101,108]:=fun e=>h17 ((opStr_label _).1 e);generalize hs:opStr x.op=s at *;clear hs h17
    by_cases hto:x.to=[]
    ·rw[hto]at c4 Hie;clear hto
     go_wp2_with fail
     refine Hie.out.mono ?_;rintro e w1 ⟨rfl,hm1⟩;have hres1:=hm1.heap Hres.out (fun e=>e);have b0:=hm1.cell c0 (fun e=>e);have b4:=hm1.cell c4 (fun e=>e);have hmw:=Hmr.out.trans0 hm1;have hb1:b<w1.heap.size:=Nat.lt_of_lt_of_le hb hmw.size;have Hmw:=Lib.hid hmw;have Hres1:=Lib.hid hres1
     clear hm1 hres1 hmw c0 c1 c2 c3 c4;go_wp2
     go_roundw
     case rel=>exact ⟨k+1,by omega,by go_num,Hmw.out,Hres1.out⟩
     case measure=>simp[intOf];omega
    ·obtain ⟨i,hi⟩:=Option.isSome_iff_exists.1 (Hlab.out hto)
     have hE:labE x.to l=(i:Int):=by unfold labE;rw[hi]
     rw[hE]at Hlabel;generalize hd4:(⟨x.to.toArray⟩:ByteArray)=d at *
     have e1:d.toList.isEmpty=false:=by rw[←hd4,bytes_list];exact List.isEmpty_eq_false_iff.2 hto
     have e2:¬d.toList=[]:=by rw[←hd4,bytes_list];exact hto
     have e3:decide ((i:Int)<0)=false:=by simp
     clear hd4 hto hi hE
     go_wp2_with fail
     refine Hie.out.mono ?_;rintro e w1 ⟨rfl,hm1⟩;have hres1:=hm1.heap Hres.out (fun e=>e);have b0:=hm1.cell c0 (fun e=>e);have b4:=hm1.cell c4 (fun e=>e);have hmw:=Hmr.out.trans0 hm1;have hb1:b<w1.heap.size:=Nat.lt_of_lt_of_le hb hmw.size;have Hmw:=Lib.hid hmw;have Hres1:=Lib.hid hres1
     clear hm1 hres1 hmw c0 c1 c2 c3 c4
     go_wp2_with (go_at_call 82;refine (Hlabel.out _ Hmw.out).mono ?_;rintro e w' ⟨rfl,rfl⟩)
     go_roundw
     case rel=>exact ⟨k+1,by omega,by go_num,Hmw.out,Hres1.out⟩
     case measure=>simp[intOf];omega
  ·have hd:decide ((k:Int)<(l.length:Int))=false:=by simp;omega
   go_wp2_with fail
   refine (fine_any _).mono ?_;rintro e w1 ⟨rfl,hm1⟩;have hres1:=hm1.heap Hres.out (fun e=>e)
   have r0:w1.cell? ⟨w.heap.size,0,none⟩=some (.int .i64 0):=by rw[cell_of_heap hres1];rfl
   have r1:w1.cell? ⟨w.heap.size,1,none⟩=some (.int .i64 0):=by rw[cell_of_heap hres1];rfl
   have f0:=free_of_heap hres1 0;have f1:=free_of_heap hres1 1;have hmw:=Hmr.out.trans0 hm1;have hs1:=lt_of_block hres1;have Hmw:=Lib.hid hmw;clear hm1 hres1 hmw;go_wp2
   refine bodyPost_ret (v:=.agg #[.int .i64 0,.int .i64 (-1)]) (by simp[results,Tryz.results51,go_sem,r0,r1]) rfl ⟨rfl,?_⟩;exact (Hmw.out.setCell (fun h=>absurd h (by simp)) _).setCell (fun h=>absurd h (by simp)) _
end
section
open Go.RowKit Qs Qh
theorem rightWords_ok(v:Value)(l:List Int)(most:Nat)(w:World)(h:IntsAt w v l)(hw:∀x∈l,isWord x=true)(hm:l.length≤most)(hm2:most≤1000) :
  Calls Tryz.prog 50 #[v,.int .i64 most] w fun e w'=>e=.returned (.bool true)∧w=w':=by
 obtain ⟨a,c,rfl,hc,hx⟩:=h.at_;have Hx:=Lib.hid hx;have Hw:=Lib.hid hw;clear hx hw h hc
 go_enter Tryz.func50,Tryz.ntmps50
 go_wp2
 go_loop [5] (fun i=>∃k:Nat,k≤l.length∧i=.int .i64 k) (fun i=>l.length - (intOf i).toNat)
 case atStart=>exact ⟨0,Nat.zero_le _,rfl⟩
 case round=>
  obtain ⟨k,hk,rfl⟩:=hrel
  by_cases hlt:k<l.length
  ·have hd:decide ((k:Int)<(l.length:Int))=true:=by simp;omega
   obtain ⟨x,hxk⟩:∃x,l[k]?=some x:=⟨_,List.getElem?_eq_getElem hlt⟩;obtain ⟨b,off,rfl,hb,hcell⟩:=Hx.out k x hxk;have hwx:=Hw.out x (List.mem_of_getElem? hxk);have Hwx:=Lib.hid hwx;clear hwx hxk
   go_wp2_with (go_at_call 60;refine (isWord_any _ _).mono ?_;rintro e w' ⟨rfl,rfl⟩;rw[Hwx.out])
   go_round
   case rel=>exact ⟨k+1,by omega,by go_num⟩
   case measure=>simp[intOf];omega
  ·have hd:decide ((k:Int)<(l.length:Int))=false:=by simp;omega
   have hd2:decide ((l.length:Int)≤(most:Int))=true:=by simp;omega
   go_wp2;go_ret;exact ⟨ret_bool (by first|(simp;done)|(simp;omega)),rfl⟩
theorem start_box(w:World)(a b:Obj):((w.alloc a).alloc b).heap[w.heap.size]?=some a:=
 (Below.heap_alloc (w.alloc a) b _ (lt_of_block (heap_alloc_new w a))).trans (heap_alloc_new w a)
theorem start_res(w:World)(a b:Obj):((w.alloc a).alloc b).heap[w.heap.size+1]?=some b:=by
 have h0:=heap_alloc_new (w.alloc a) b
 simpa using h0
def StartRel(w:World)(n:Nat)(iw rw_:Value)(wr:World):Prop:=
 Mod noF w wr∧wr.heap[w.heap.size]?=some (.cells #[.int .i64 n,iw,rw_] 40 (0,0))∧wr.heap[w.heap.size+1]?=some (.cells #[.int .i64 0,.int .i64 0] 27 (0,0))
theorem startFault_ok(n:Nat)(iw rw_ cw:Value)(init regs:List (List Int))(codes:List (List Instr))(cv:Nat→Value)(w:World)(hI:Qh.RowsAt w iw init)(hR:Qh.RowsAt w rw_ regs)(hC:CodesAt w cw codes cv)
  (h1:1≤n) (hn:n≤64) (hc1:1≤codes.length) (hc6:codes.length≤6) (hin:init.length≤n) (hrc:regs.length≤codes.length) (hi:RowsFine 4 init) (hr:RowsFine 8 regs) (hf:∀c∈codes,CodeFine c) :
  Calls Tryz.prog 13 #[.agg #[.int .i64 n,iw,rw_],cw] w fun e w'=>e=.returned (.agg #[.int .i64 0,.int .i64 (-1)])∧Mod noF w w':=by
 have HI:=Lib.hid hI;have HR:=Lib.hid hR;have HC:=Lib.hid hC;have Hi:=Lib.hid hi;have Hr:=Lib.hid hr;have Hf:=Lib.hid hf;obtain ⟨ia,ic,rfl,_⟩:=hI;obtain ⟨ra,rc,rfl,_⟩:=hR;obtain ⟨ca,cc,rfl,_⟩:=hC
 have d0:decide ((n:Int)<1)=false:=by simp;omega
 have d1:decide ((64:Int)<(n:Int))=false:=by simp;omega
 have d2:decide ((codes.length:Int)<1)=false:=by simp;omega
 have d3:decide ((6:Int)<(codes.length:Int))=false:=by simp;omega
 have d4:¬n<init.length:=by omega
 have d5:¬codes.length<regs.length:=by omega
 clear hi hr hf
 go_enter Tryz.func13,Tryz.ntmps13
 go_wp2
 go_loopw [5,6] (fun i _ wr=>∃k:Nat,k≤init.length∧i=.int .i64 k∧StartRel w n (.slice ia init.length ic) (.slice ra regs.length rc) wr) (fun i _ _=>init.length - (intOf i).toNat)
 case atStart=>exact ⟨0,Nat.zero_le _,rfl,((Mod.refl noF w).alloc _).alloc _,start_box w _ _,start_res w _ _⟩
 case round=>
  obtain ⟨k,hk,rfl,hm,hbox,hres⟩:=hrel
  have b1:wr.cell? ⟨w.heap.size,1,none⟩=some (.slice ia init.length ic):=by rw[cell_of_heap hbox];rfl
  have hsz:=lt_of_block hres;have HS:=Lib.hid (show StartRel w n (.slice ia init.length ic) (.slice ra regs.length rc) wr from ⟨hm,hbox,hres⟩)
  by_cases hlt:k<init.length
  ·have hd:decide ((k:Int)<(init.length:Int))=true:=by simp;omega
   obtain ⟨l,hl⟩:∃l,init[k]?=some l:=⟨_,List.getElem?_eq_getElem hlt⟩;obtain ⟨ia',ic',e',hrow⟩:=HI.out.keep hm.toBelow;cases e';obtain ⟨ib,ioff,u,rfl,hib,hu,hints,_⟩:=hrow k l hl;have hfl:=Hi.out l (List.mem_of_getElem? hl);have hcall:=rightWords_ok u l 4 wr hints hfl.2 hfl.1 (by omega)
   have Hcall:=Lib.hid hcall;clear hm hbox hres hl hrow hints hfl hcall
   go_wp2_with fail
   refine Hcall.out.mono ?_;rintro e w' ⟨rfl,rfl⟩;go_wp2
   go_roundw
   case rel=>exact ⟨k+1,by omega,by go_num,HS.out⟩
   case measure=>simp[intOf];omega
  ·have hd:decide ((k:Int)<(init.length:Int))=false:=by simp;omega
   clear hm hbox hres;go_wp2;clear b1 hsz
   go_loopw [7,8] (fun i _ wr=>∃k:Nat,k≤regs.length∧i=.int .i64 k∧StartRel w n (.slice ia init.length ic) (.slice ra regs.length rc) wr) (fun i _ _=>regs.length - (intOf i).toNat)
   case atStart=>exact ⟨0,Nat.zero_le _,rfl,HS.out⟩
   case round=>
    obtain ⟨k,hk,rfl,hm,hbox,hres⟩:=hrel
    have b2:wr.cell? ⟨w.heap.size,2,none⟩=some (.slice ra regs.length rc):=by rw[cell_of_heap hbox];rfl
    have hsz:=lt_of_block hres;have HS:=Lib.hid (show StartRel w n (.slice ia init.length ic) (.slice ra regs.length rc) wr from ⟨hm,hbox,hres⟩)
    by_cases hlt:k<regs.length
    ·have hd:decide ((k:Int)<(regs.length:Int))=true:=by simp;omega
     obtain ⟨l,hl⟩:∃l,regs[k]?=some l:=⟨_,List.getElem?_eq_getElem hlt⟩;obtain ⟨ra',rc',e',hrow⟩:=HR.out.keep hm.toBelow;cases e';obtain ⟨rb,roff,u,rfl,hrb,hu,hints,_⟩:=hrow k l hl;have hfl:=Hr.out l (List.mem_of_getElem? hl);have hcall:=rightWords_ok u l 8 wr hints hfl.2 hfl.1 (by omega)
     have Hcall:=Lib.hid hcall;clear hm hbox hres hl hrow hints hfl hcall
     go_wp2_with fail
     refine Hcall.out.mono ?_;rintro e w' ⟨rfl,rfl⟩;go_wp2
     go_roundw
     case rel=>exact ⟨k+1,by omega,by go_num,HS.out⟩
     case measure=>simp[intOf];omega
    ·have hd:decide ((k:Int)<(regs.length:Int))=false:=by simp;omega
     clear hm hbox hres;go_wp2;clear b2 hsz
     go_loopw [9,10] (fun i _ wr=>∃k:Nat,k≤codes.length∧i=.int .i64 k∧StartRel w n (.slice ia init.length ic) (.slice ra regs.length rc) wr) (fun i _ _=>codes.length - (intOf i).toNat)
     case atStart=>exact ⟨0,Nat.zero_le _,rfl,HS.out⟩
     case round=>
      obtain ⟨k,hk,rfl,hm,hbox,hres⟩:=hrel;have hsz:=lt_of_block hres;have Hm:=Lib.hid hm;have Hbox:=Lib.hid hbox;have Hres:=Lib.hid hres
      by_cases hlt:k<codes.length
      ·have hd:decide ((k:Int)<(codes.length:Int))=true:=by simp;omega
       obtain ⟨c,hc⟩:∃c,codes[k]?=some c:=⟨_,List.getElem?_eq_getElem hlt⟩;obtain ⟨ca',cc',e',hrow⟩:=HC.out.keep hm.toBelow;cases e';obtain ⟨cb,coff,rfl,hcb,hcc,hcode,_⟩:=hrow k c hc;have hcall:=codeFault_ok (cv k) c wr hcode (Hf.out c (List.mem_of_getElem? hc));have Hcall:=Lib.hid hcall
       clear hm hbox hres hc hrow hcode hcall
       go_wp2_with fail
       refine Hcall.out.mono ?_;rintro e w5 ⟨rfl,hm5⟩;have hs5:=hm5.size;have Hm5:=Lib.hid hm5;clear hm5;go_wp2
       go_roundw
       case rel=>
        have hM:Mod noF wr _:=(Hm5.out.alloc (.cells #[.int .i64 0,.int .i64 (-1)] 27));exact ⟨k+1,by omega,by go_num,Hm.out.trans0 hM,hM.heap Hbox.out (fun e=>e),hM.heap Hres.out (fun e=>e)⟩
       case measure=>simp[intOf];omega
      ·have hd:decide ((k:Int)<(codes.length:Int))=false:=by simp;omega
       clear hm hbox hres
       go_wp2_with fail
       refine (fine_any _).mono ?_;rintro e w5 ⟨rfl,hm5⟩;have hres5:=hm5.heap Hres.out (fun e=>e)
       have r0:w5.cell? ⟨w.heap.size+1,0,none⟩=some (.int .i64 0):=by rw[cell_of_heap hres5];rfl
       have r1:w5.cell? ⟨w.heap.size+1,1,none⟩=some (.int .i64 0):=by rw[cell_of_heap hres5];rfl
       have f0:=free_of_heap hres5 0;have f1:=free_of_heap hres5 1;have hmw:=Hm.out.trans0 hm5;have hs1:=lt_of_block hres5;have Hmw:=Lib.hid hmw;clear hm5 hres5 hmw;go_wp2
       refine bodyPost_ret (v:=.agg #[.int .i64 0,.int .i64 (-1)]) (by simp[results,Tryz.results13,go_sem,r0,r1]) rfl ⟨rfl,?_⟩;exact (Hmw.out.setCell (fun h=>absurd h (by simp)) _).setCell (fun h=>absurd h (by simp)) _
end
section
open Go.RowKit Qs Qh
def TabW(w:World):Prop:=∃T fr,w.heap[11]?=some (.cells (Lib.pow10Tab.map fun z=>Value.int .u64 z).toArray T fr)
structure MkA(N0:Nat)(big:Prop)(f t nx:Int)(w:World)(b:Nat)(v:Value)(l:List Instr)(k:Nat):Prop where
 m:Mkr w b v l k
 c1:w.cell? ⟨b,1,none⟩=some (.int .i64 f)
 c2:w.cell? ⟨b,2,none⟩=some (.int .i64 t)
 c3:w.cell? ⟨b,3,none⟩=some (.int .i64 nx)
 lo:N0≤b
 lv:∀g,v.ownBlock=some g→N0≤g
 hi:N0≤w.heap.size
 tab:big→TabW w
variable {N0:Nat}{big:Prop}{f t nx:Int}{w w1 w2:World}{b k:Nat}{v v1 v2:Value}{l:List Instr}
theorem TabW.keep(h:TabW w){F:Nat→Prop}(hM:Mod F w w1)(hF:¬F 11):TabW w1:=by
 obtain ⟨T,fr,h⟩:=h;exact ⟨T,fr,hM.heap h hF⟩
theorem MkA.lt(M:MkA N0 big f t nx w b v l k):b<w.heap.size:=M.m.emit.lt
theorem MkA.vlt(M:MkA N0 big f t nx w b v l k){g:Nat}(h:v.ownBlock=some g):g<w.heap.size:=M.m.emit.row.lt h
theorem MkA.quiet(M:MkA N0 big f t nx w b v l k)(h:Mod noF w w1):MkA N0 big f t nx w1 b v l k:=
 ⟨M.m.quiet h,h.cell M.c1 (fun e=>e),h.cell M.c2 (fun e=>e),h.cell M.c3 (fun e=>e),M.lo,M.lv,Nat.le_trans M.hi h.size,fun hb=>(M.tab hb).keep h (fun e=>e)⟩
def lowT(N0:Nat):Prop:=11 < N0
theorem MkA.chain(M:MkA N0 big f t nx w b v l k)(hT:big→lowT N0){l':List Instr}(C:Chain w b 0 v l' w1):∃v',MkA N0 big f t nx w1 b v' l' k∧MkStep w b v w1 v':=by
 obtain ⟨v',M1,S⟩:=M.m.chain C;obtain ⟨hb,v2,E,G⟩:=C;refine ⟨v',⟨M1,G.cells 1 _ (by omega) M.c1,G.cells 2 _ (by omega) M.c2,G.cells 3 _ (by omega) M.c3,M.lo,fun g hg=>?_,Nat.le_trans M.hi S.mod.size,fun hb=>(M.tab hb).keep S.mod fun e=>?_⟩,S⟩
 ·rcases S.new g hg with e|e
  ·exact M.lv g e
  ·have:=M.hi;omega
 ·have hT:=hT hb;unfold lowT at hT
  rcases e with e|e
  ·have:=M.lo;omega
  ·have:=M.lv _ e;omega
theorem MkA.tick(M:MkA N0 big f t nx w b v l k)(hT:big→lowT N0)(n:Nat):MkA N0 big f t nx (w.setCell ⟨b,4,none⟩ (.int .i64 n)) b v l n∧MkStep w b v (w.setCell ⟨b,4,none⟩ (.int .i64 n)) v:=by
 obtain ⟨M1,S⟩:=M.m.tick n
 have hc:∀(j:Nat) u,j≠4→w.cell? ⟨b,j,none⟩=some u→(w.setCell ⟨b,4,none⟩ (.int .i64 n)).cell? ⟨b,j,none⟩=some u:=fun j u hj h=>by
  rw[World.cell?_setCell_other _ _ _ _ (fun e=>by have:=congrArg Addr.off e;simp at this;omega)];exact h
 refine ⟨⟨M1,hc 1 _ (by omega) M.c1,hc 2 _ (by omega) M.c2,hc 3 _ (by omega) M.c3,M.lo,M.lv,Nat.le_trans M.hi S.mod.size,fun hb=>(M.tab hb).keep S.mod fun e=>?_⟩,S⟩;have hT:=hT hb;unfold lowT at hT
 rcases e with e|e
 ·have:=M.lo;omega
 ·have:=M.lv _ e;omega
def FreshH(N0:Nat)(big:Prop)(f t nx:Int)(K:Nat):Prop:=∀(w:World) (b:Nat) (v:Value) (l:List Instr) (k:Nat),k<K→MkA N0 big f t nx w b v l k→
 Calls Tryz.prog 73 #[.pointer (some ⟨b,0,none⟩)] w fun e w'=>e=.returned (.string ⟨(Qu.labN (k+1)).toArray⟩)∧MkA N0 big f t nx w' b v l (k+1)∧MkStep w b v w' v
end
section
open Go.RowKit Qs Qh
theorem wp_append_none{P:Program}{w:World}{o:Oper}{a:Act}{K:Act→World→Prop}{Q:Exit→Act→World→Prop}(s x:Operand)(t:TypeId)
  (ho:o.op=.call {callee:=.builtin .append,args:=#[s,x],argTypes:=#[t,t]})
  (base:Nat) (e:TypeId) (i:TypeInfo) (size:Nat) (ht:P.underlying t=some (.slice e)) (hi:P.info? e=some i)
  (v:Value) (n:Nat) (xs:List Value) (hs:a.eval s=v) (hown:w.ownsRow base e size v n xs) (hx:a.eval x=.slice none 0 0)
  (h:K (a.put o.dst v) w):o.wp P a w K Q:=by
 have hrun:=run_append_owned_none (P:=P) (w:=w) base t o.type e i size ht hi v n xs hown;unfold Oper.wp;simp[execOp,ho,resolve,invoke,builtin,hs,hx,hrun,Result.andThen];exact h
theorem wpList_append_none{P:Program}{w:World}{ops:Array Oper}{rest:List Oper}{o:Oper}{a:Act}{Q:Exit→Act→World→Prop}(hgd:o.guard=none)(s x:Operand)(t:TypeId)
  (ho:o.op=.call {callee:=.builtin .append,args:=#[s,x],argTypes:=#[t,t]})
  (base:Nat) (e:TypeId) (i:TypeInfo) (size:Nat) (ht:P.underlying t=some (.slice e)) (hi:P.info? e=some i)
  (v:Value) (n:Nat) (xs:List Value) (hs:a.eval s=v) (hown:w.ownsRow base e size v n xs) (hx:a.eval x=.slice none 0 0)
  (h:wpList P ops Q rest (a.put o.dst v) w):wpList P ops Q (o :: rest) a w:=
 wpList_plain hgd fun _ hK=>wp_append_none s x t ho base e i size ht hi v n xs hs hown hx (hK _ _ h)
theorem more_none_any(w:World)(b o:Nat)(v:Value)(l:List Instr)(E:Emit insT w b o v l)(hlen:l.length≤1000000) :
  Calls Tryz.prog 74 #[.pointer (some ⟨b,o,none⟩),.slice none 0 0] w (Emitted w b o v l):=by
 have HE:=Lib.hid E;obtain ⟨ec,ef,er,en,el⟩:=E;obtain ⟨a,cp,rfl,hcp,hlm⟩:=er.slice;have Her:=Lib.hid er;clear er en;obtain ⟨i0,hi,hz0,hz1,hz2⟩:=info_parts insInfo
 go_enter Tryz.func74,Tryz.ntmps74
 go_wp2_with (at_builtin;refine wpList_append_none rfl (.tmp 9) (.tmp 10) 71 rfl 0 143 i0 5 Tryz.underlying71 hi (.slice a l.length cp) _ (flat insV 0 l) rfl Her.out rfl ?_)
 have hap:=HE.out.append (Mod.refl _ w) (x:=[]) (by have h:=Her.out;unfold InsRow at h;simpa[flat]using h) (Nat.le_refl _) (fun g h=>.inl h);rw[List.append_nil]at hap;have Hap:=Lib.hid hap;clear hap;go_ret;exact ⟨rfl,_,Hap.out⟩
theorem more_none{w0 w:World}{b o:Nat}{v0:Value}{l:List Instr}(C:Chain w0 b o v0 l w)(hlen:l.length≤1000000) :
  Calls Tryz.prog 74 #[.pointer (some ⟨b,o,none⟩),.slice none 0 0] w fun e w'=>e=.returned (.pointer (some ⟨b,o,none⟩))∧Chain w0 b o v0 l w':=by
 obtain ⟨hb,v,E,G⟩:=C;exact (more_none_any w b o v l E hlen).mono fun e w' h=>Chain.next hb G h
theorem made_more{w0 w:World}{b:Nat}{v0 pv:Value}{l x:List Instr}(C:Chain w0 b 0 v0 l w)(hlen:l.length≤1000000)(hx:x.length≤1000)(hi:InsRow insT w pv x) :
  Calls Tryz.prog 74 #[.pointer (some ⟨b,0,none⟩),pv] w fun e w'=>e=.returned (.pointer (some ⟨b,0,none⟩))∧Chain w0 b 0 v0 (l++x) w':=by
 by_cases h0:x=[]
 ·subst h0
  rcases hi.2 with ⟨rfl,_⟩|⟨g,cap,cur,rfl,hn,hg,h1,h2,h3,h4⟩
  ·rw[List.append_nil];exact more_none C hlen
  ·exact more_chain C hlen [] g cap (fun j u h=>by simp[flat]at h) (by simp)
 ·obtain ⟨g,c,rfl,hs⟩:=InsRow.src hi (List.length_pos_iff.2 h0);exact more_chain C hlen x g c hs hx
end
section
open Go.RowKit Qs Qh
theorem prefix_ok(s:ByteArray)(most:Int)(w:World)(hs:s.size≤maxLen)(hn:nameB s.data.toList=true)(hm:(s.size:Int)≤most) :
  Calls Tryz.prog 63 #[.string s,.int .i64 most] w fun e w'=>e=.returned .nilIface∧w=w':=by
 have Hn:=Lib.hid hn;clear hn
 have hd:decide (most<(s.size:Int))=false:=by simpa using hm
 go_enter Tryz.func63,Tryz.ntmps63
 go_wp2_with (go_at_call 91;refine (name_any s _ hs).mono ?_;rintro e w' ⟨rfl,rfl⟩;rw[Hn.out])
 go_ret;exact ⟨rfl,rfl⟩
structure LookOk(s:ByteArray)(cell word tmp:Int):Prop where
 name:nameB s.data.toList=true
 len:s.size≤8
 c0:0≤cell
 c1:cell<8
 w0:0≤word
 w1:word<4
 t0:0≤tmp
 t1:tmp<7
 ne0:cell≠tmp
 ne1:cell≠tmp+1
theorem look_ok(s:ByteArray)(cell word tmp:Int)(w:World)(h:LookOk s cell word tmp) :
  Calls Tryz.prog 127 #[.string s,.int .i64 cell,.int .i64 word,.int .i64 tmp] w fun e w'=>e=.returned .nilIface∧w=w':=by
 obtain ⟨hn,hl,c0,c1,w0,w1,t0,t1,n0,n1⟩:=h
 have hs:s.size≤maxLen:=by unfold maxLen;omega
 have hm:(s.size:Int)≤8:=by omega
 have d0:(cell==tmp)=false:=by simpa using n0
 have d1:(cell==tmp+1)=false:=by simpa using n1
 have Hn:=Lib.hid hn;clear hn
 go_enter Tryz.func127,Tryz.ntmps127
 go_wp2_with (go_at_call 63;refine (prefix_ok s 8 _ hs Hn.out hm).mono ?_;rintro e w' ⟨rfl,rfl⟩)
 go_ret;exact ⟨rfl,rfl⟩
def takeCode(p:List UInt8)(cell word tmp:Int):List Instr:=
 [⟨17,0,0,0,p++[46,97]⟩,⟨0,tmp,0,0,[]⟩,⟨0,tmp+1,1,0,[]⟩,⟨9,cell,tmp,word,[]⟩,⟨14,tmp,0,0,p++[46,98]⟩,⟨16,0,0,0,p++[46,97]⟩,⟨17,0,0,0,p++[46,98]⟩]
def giveCode(cell word tmp:Int):List Instr:=[⟨0,tmp,0,0,[]⟩,⟨7,cell,tmp,word,[]⟩,⟨12,0,0,0,[]⟩]
theorem take_ok(s:ByteArray)(cell word tmp:Int)(w:World)(h:LookOk s cell word tmp) :
  Calls Tryz.prog 121 #[.string s,.int .i64 cell,.int .i64 word,.int .i64 tmp] w fun e w'=>∃v,e=.returned (.tuple #[v,.nilIface])∧Made (takeCode s.data.toList cell word tmp) w v w':=by
 have H:=Lib.hid h;obtain ⟨hn,hl,c0,c1,w0,w1,t0,t1,n0,n1⟩:=h;clear hn n0 n1
 go_enter Tryz.func121,Tryz.ntmps121
 go_wp2_with (go_at_call 127;refine (look_ok s cell word tmp _ H.out).mono ?_;rintro e w' ⟨rfl,rfl⟩)
 go_wp2_with fail
 refine (label_chain (Chain.start (b:=w.heap.size) (o:=0) (v:=.slice none 0 0) (l:=[]) ⟨by simp,by simp,InsRow.nil _ _,by simp[Value.ownBlock],by simp⟩) (by simp) (s.data.toList++[46,97]) _ (bytes_cat s _)).mono ?_;rintro e w1 ⟨rfl,C1⟩;have HC1:=Lib.hid C1;clear C1
 go_wp2_with fail
 refine (op2_chain (HC1.out.quiet ((Mod.refl _ _).alloc _)) (by simp) 0 _ rfl w1.heap.size tmp 0 2 (by simp) (by simp) (by simp)).mono ?_;rintro e w2 ⟨rfl,C2⟩;have HC2:=Lib.hid C2;clear C2
 go_wp2_with fail
 refine (op2_chain (HC2.out.quiet ((Mod.refl _ _).alloc _)) (by simp) 0 _ rfl w2.heap.size (tmp+1) 1 2 (by simp) (by simp) (by simp)).mono ?_;rintro e w3 ⟨rfl,C3⟩;have HC3:=Lib.hid C3;clear C3
 go_wp2_with fail
 refine (op3_chain (HC3.out.quiet ((Mod.refl _ _).alloc _)) (by simp) 9 _ rfl w3.heap.size cell tmp word 3 (by simp) (by simp) (by simp) (by simp)).mono ?_;rintro e w4 ⟨rfl,C4⟩;have HC4:=Lib.hid C4;clear C4
 go_wp2_with fail
 refine (to1_chain (HC4.out.quiet ((Mod.refl _ _).alloc _)) (by simp) 14 _ rfl (s.data.toList++[46,98]) _ (bytes_cat s _) w4.heap.size tmp 1 (by simp) (by simp)).mono ?_;rintro e w5 ⟨rfl,C5⟩;have HC5:=Lib.hid C5;clear C5
 go_wp2_with fail
 refine (to0_chain HC5.out (by simp) 16 _ rfl (s.data.toList++[46,97]) _ (bytes_cat s _)).mono ?_;rintro e w6 ⟨rfl,C6⟩;have HC6:=Lib.hid C6;clear C6
 go_wp2_with fail
 refine (label_chain HC6.out (by simp) (s.data.toList++[46,98]) _ (bytes_cat s _)).mono ?_;rintro e w7 ⟨rfl,C7⟩;have HC7:=Lib.hid C7;clear C7;obtain ⟨v,ec,hv⟩:=HC7.out.made (w:=w) (by simp[Value.ownBlock]) ((Mod.refl _ _).alloc _) (Nat.le_refl _);have Hv:=Lib.hid hv;clear hv;go_wp2;go_ret2
 exact ⟨v,rfl,Hv.out⟩
theorem give_ok(s:ByteArray)(cell word tmp:Int)(w:World)(h:LookOk s cell word tmp) :
  Calls Tryz.prog 123 #[.string s,.int .i64 cell,.int .i64 word,.int .i64 tmp] w fun e w'=>∃v,e=.returned (.tuple #[v,.nilIface])∧Made (giveCode cell word tmp) w v w':=by
 have H:=Lib.hid h;obtain ⟨hn,hl,c0,c1,w0,w1,t0,t1,n0,n1⟩:=h;clear hn n0 n1
 go_enter Tryz.func123,Tryz.ntmps123
 go_wp2_with (go_at_call 127;refine (look_ok s cell word tmp _ H.out).mono ?_;rintro e w' ⟨rfl,rfl⟩)
 go_wp2_with fail
 refine (op2_chain (Chain.start (b:=w.heap.size) (o:=0) (v:=.slice none 0 0) (l:=[]) (w:=(w.alloc (.cells #[.slice none 0 0] 99)).alloc (.cells #[.int .i64 tmp,.int .i64 0] 3)) ⟨by simp,by simp,InsRow.nil _ _,by simp[Value.ownBlock],by simp;omega⟩) (by simp) 0 _ rfl (w.heap.size+1) tmp 0 2 (by simp) (by simp) (by simp)).mono ?_
 rintro e w1 ⟨rfl,C1⟩;have HC1:=Lib.hid C1;clear C1
 go_wp2_with fail
 refine (op3_chain (HC1.out.quiet ((Mod.refl _ _).alloc _)) (by simp) 7 _ rfl w1.heap.size cell tmp word 3 (by simp) (by simp) (by simp) (by simp)).mono ?_;rintro e w2 ⟨rfl,C2⟩;have HC2:=Lib.hid C2;clear C2
 go_wp2_with fail
 refine (op0_chain HC2.out (by simp) 12 _ rfl).mono ?_;rintro e w3 ⟨rfl,C3⟩;have HC3:=Lib.hid C3;clear C3;obtain ⟨v,ec,hv⟩:=HC3.out.made (w:=w) (by simp[Value.ownBlock]) (((Mod.refl _ _).alloc _).alloc _) (Nat.le_refl _);have Hv:=Lib.hid hv;clear hv;go_wp2;go_ret2;exact ⟨v,rfl,Hv.out⟩
end
section
open Go.RowKit Qs Qh
def wop(n:Nat):Bool:=n≤9||(12≤n&&n≤17)
end
section
open Go.RowKit Qs Qh
def preI(p:List UInt8)(x:Instr):Instr:=⟨x.op,x.A,x.B,x.C,if x.to.isEmpty then []else p++x.to⟩
def preC(p:List UInt8)(l:List Instr):List Instr:=l.map (preI p)
abbrev pre4:List UInt8:=[97,97,97,97]
theorem preI_empty{p q:List UInt8}(hp:p≠[])(hq:q≠[])(x:Instr):(preI p x).to.isEmpty=(preI q x).to.isEmpty:=by
 unfold preI
 cases x.to with
 |nil=>rfl
 |cons c l=>
  obtain ⟨a,p,rfl⟩:=List.exists_cons_of_ne_nil hp;obtain ⟨b,q,rfl⟩:=List.exists_cons_of_ne_nil hq;rfl
theorem nameB_ne{p:List UInt8}(h:nameB p=true):p≠[]:=fun e=>by subst e;cases h
theorem nameB_pre{p t:List UInt8}(hn:nameB p=true)(hl:p.length≤4)(h:nameB (pre4++t)=true):nameB (p++t)=true:=by
 match p,hn with
 |d :: r,hn=>
  simp only[nameB,Bool.and_eq_true,decide_eq_true_eq,List.all_cons]at hn;obtain ⟨⟨h1,h2⟩,h3,h4⟩:=hn;simp only[List.cons_append,List.nil_append,nameB,Bool.and_eq_true,decide_eq_true_eq,List.all_cons,List.all_append]at h ⊢;obtain ⟨⟨g1,g2⟩,g3,g4,g5,g6,g7⟩:=h;refine ⟨⟨?_,h2⟩,h3,h4,g7⟩
  simp at hl g1 ⊢;omega
theorem preI_name{p:List UInt8}(hn:nameB p=true)(hl:p.length≤4)(x:Instr)(h:nameB (preI pre4 x).to=true):nameB (preI p x).to=true:=by
 unfold preI at h ⊢;simp only at h ⊢
 split at h
 ·cases h
 ·rename_i hne
  rw[if_neg hne];exact nameB_pre hn hl h
theorem insFine_pre{p:List UInt8}(hn:nameB p=true)(hl:p.length≤4)(x:Instr)(h:insFine (preI pre4 x)=true):insFine (preI p x)=true:=by
 have h1:=preI_empty (nameB_ne hn) (q:=pre4) (by simp) x;have h2:=preI_name hn hl x;unfold insFine at h ⊢;generalize (preI p x).to=tp at *;generalize (preI pre4 x).to=tq at *;simp only[preI]at h ⊢
 split at h <;> simp_all
theorem labelAt_pre(p t:List UInt8)(ht:t≠[]):∀(l:List Instr) (i:Nat),labelAt (p++t) (preC p l) i=labelAt t l i
 |[],_=>rfl
 |x :: l,i=>by
  show labelAt _ (preI p x :: preC p l) i=_;unfold labelAt;rw[labelAt_pre p t ht l (i+1)]
  have e:((preI p x).op=17∧(preI p x).to=p++t)↔(x.op=17∧x.to=t):=by
   unfold preI;simp only;refine and_congr_right fun _=>?_
   cases h:x.to with
   |nil=>
    simp only[List.isEmpty_nil,if_true];constructor
    ·intro e;have:=congrArg List.length e;simp only[List.length_nil,List.length_append]at this;exact absurd (List.length_eq_zero_iff.1 (show t.length=0 by omega)) ht
    ·intro e;exact absurd e.symm ht
   |cons c r=>
    simp only[List.isEmpty_cons,Bool.false_eq_true,if_false];exact ⟨fun e=>List.append_cancel_left e,fun e=>by rw[e]⟩
  simp only[e]
def preOk(l:List Instr):Bool:=codeFineB (preC pre4 l)&&l.all (fun x=>!decide (x.op=17) || !x.to.isEmpty)&&l.all (fun x=>wop x.op)
theorem preC_fine{p:List UInt8}(hn:nameB p=true)(hl:p.length≤4){l:List Instr}(h:preOk l=true):CodeFine (preC p l):=by
 unfold preOk at h;simp only[Bool.and_eq_true,List.all_eq_true]at h;obtain ⟨⟨h1,h2⟩,h3⟩:=h;have F:=codeFine_of h1;refine ⟨?_,fun y hy=>?_,fun i y hy h17=>?_,fun y hy hne=>?_⟩
 ·have:=F.len;simpa[preC]using this
 ·obtain ⟨x,hx,rfl⟩:=List.mem_map.1 hy;exact insFine_pre hn hl x (F.ins _ (List.mem_map_of_mem hx))
 ·unfold preC at hy;rw[List.getElem?_map]at hy;obtain ⟨x,hx,rfl⟩:=Option.map_eq_some_iff.1 hy;have h17':x.op=17:=h17;have hto:=h2 x (List.mem_of_getElem? hx);rw[h17']at hto
  have hne:x.to≠[]:=by intro e;rw[e]at hto;simp at hto
  have e1:∀q:List UInt8,(preI q x).to=q++x.to:=fun q=>by unfold preI;simp only;rw[if_neg (by simpa using hne)]
  rw[e1,labelAt_pre p _ hne,←labelAt_pre pre4 _ hne,←e1];exact F.set i _ (by unfold preC;rw[List.getElem?_map,hx];rfl) h17'
 ·obtain ⟨x,hx,rfl⟩:=List.mem_map.1 hy
  have hne':x.to≠[]:=by intro e;apply hne;unfold preI;rw[e];rfl
  have e1:∀q:List UInt8,(preI q x).to=q++x.to:=fun q=>by unfold preI;simp only;rw[if_neg (by simpa using hne')]
  rw[e1,labelAt_pre p _ hne',←labelAt_pre pre4 _ hne',←e1];exact F.lab _ (List.mem_map_of_mem hx) (by rw[e1];simp)
end
section
open Go.RowKit Qs Qh
variable {w0 w w1:World}{b o:Nat}{v0:Value}{l:List Instr}
def pushCode(p:List UInt8):List Instr:=
 [⟨17,0,0,0,p++[46,97]⟩,⟨6,0,5,0,[]⟩,⟨7,3,0,1,[]⟩,⟨1,1,0,0,[]⟩,⟨1,2,3,0,[]⟩,⟨9,5,1,0,[]⟩,⟨15,0,1,0,p++[46,98]⟩,⟨16,0,0,0,p++[46,97]⟩,⟨17,0,0,0,p++[46,98]⟩]
theorem push_ok(s:ByteArray)(w:World)(hn:nameB s.data.toList=true)(hm:(s.size:Int)≤8) :
  Calls Tryz.prog 38 #[.string s] w fun e w'=>∃v,e=.returned (.tuple #[v,.nilIface])∧Made (pushCode s.data.toList) w v w':=by
 have hs:s.size≤maxLen:=by unfold maxLen;omega
 have Hn:=Lib.hid hn;clear hn
 go_enter Tryz.func38,Tryz.ntmps38
 go_wp2_with (go_at_call 63;refine (prefix_ok s 8 _ hs Hn.out hm).mono ?_;rintro e w' ⟨rfl,rfl⟩)
 go_wp2_with fail
 refine (label_chain (Chain.start (b:=w.heap.size) (o:=0) (v:=.slice none 0 0) (l:=[]) ⟨by simp,by simp,InsRow.nil _ _,by simp[Value.ownBlock],by simp⟩) (by simp) (s.data.toList++[46,97]) _ (bytes_cat s _)).mono ?_;rintro e w1 ⟨rfl,C1⟩;have HC1:=Lib.hid C1;clear C1
 go_wp2_with fail
 refine (op3_chain (HC1.out.quiet ((Mod.refl _ _).alloc _)) (by simp) 6 _ rfl w1.heap.size 0 5 0 3 (by simp) (by simp) (by simp) (by simp)).mono ?_;rintro e w2 ⟨rfl,C2⟩;have HC2:=Lib.hid C2;clear C2
 go_wp2_with fail
 refine (op3_chain (HC2.out.quiet ((Mod.refl _ _).alloc _)) (by simp) 7 _ rfl w2.heap.size 3 0 1 3 (by simp) (by simp) (by simp) (by simp)).mono ?_;rintro e w3 ⟨rfl,C3⟩;have HC3:=Lib.hid C3;clear C3
 go_wp2_with fail
 refine (op2_chain (HC3.out.quiet ((Mod.refl _ _).alloc _)) (by simp) 1 _ rfl w3.heap.size 1 0 2 (by simp) (by simp) (by simp)).mono ?_;rintro e w4 ⟨rfl,C4⟩;have HC4:=Lib.hid C4;clear C4
 go_wp2_with fail
 refine (op2_chain (HC4.out.quiet ((Mod.refl _ _).alloc _)) (by simp) 1 _ rfl w4.heap.size 2 3 2 (by simp) (by simp) (by simp)).mono ?_;rintro e w5 ⟨rfl,C5⟩;have HC5:=Lib.hid C5;clear C5
 go_wp2_with fail
 refine (op3_chain (HC5.out.quiet ((Mod.refl _ _).alloc _)) (by simp) 9 _ rfl w5.heap.size 5 1 0 3 (by simp) (by simp) (by simp) (by simp)).mono ?_;rintro e w6 ⟨rfl,C6⟩;have HC6:=Lib.hid C6;clear C6
 go_wp2_with fail
 refine (to2_chain (HC6.out.quiet ((Mod.refl _ _).alloc _)) (by simp) 15 _ rfl (s.data.toList++[46,98]) _ (bytes_cat s _) w6.heap.size 0 1 2 (by simp) (by simp) (by simp)).mono ?_;rintro e w7 ⟨rfl,C7⟩;have HC7:=Lib.hid C7;clear C7
 go_wp2_with fail
 refine (to0_chain HC7.out (by simp) 16 _ rfl (s.data.toList++[46,97]) _ (bytes_cat s _)).mono ?_;rintro e w8 ⟨rfl,C8⟩;have HC8:=Lib.hid C8;clear C8
 go_wp2_with fail
 refine (label_chain HC8.out (by simp) (s.data.toList++[46,98]) _ (bytes_cat s _)).mono ?_;rintro e w9 ⟨rfl,C9⟩;have HC9:=Lib.hid C9;clear C9;obtain ⟨v,ec,hv⟩:=HC9.out.made (w:=w) (by simp[Value.ownBlock]) ((Mod.refl _ _).alloc _) (Nat.le_refl _);have Hv:=Lib.hid hv;clear hv;go_wp2;go_ret2
 exact ⟨v,rfl,Hv.out⟩
def popCode(p:List UInt8):List Instr:=
 [⟨17,0,0,0,p++[46,97]⟩,⟨6,0,5,0,[]⟩,⟨14,0,0,0,p++[46,98]⟩,⟨6,2,0,1,[]⟩,⟨1,1,0,0,[]⟩,⟨9,5,1,0,[]⟩,⟨15,0,1,0,p++[46,98]⟩,⟨16,0,0,0,p++[46,97]⟩,⟨17,0,0,0,p++[46,98]⟩,⟨1,3,0,0,[]⟩]
theorem pop_ok(s:ByteArray)(w:World)(hn:nameB s.data.toList=true)(hm:(s.size:Int)≤8) :
  Calls Tryz.prog 39 #[.string s] w fun e w'=>∃v,e=.returned (.tuple #[v,.nilIface])∧Made (popCode s.data.toList) w v w':=by
 have hs:s.size≤maxLen:=by unfold maxLen;omega
 have Hn:=Lib.hid hn;clear hn
 go_enter Tryz.func39,Tryz.ntmps39
 go_wp2_with (go_at_call 63;refine (prefix_ok s 8 _ hs Hn.out hm).mono ?_;rintro e w' ⟨rfl,rfl⟩)
 go_wp2_with fail
 refine (label_chain (Chain.start (b:=w.heap.size) (o:=0) (v:=.slice none 0 0) (l:=[]) ⟨by simp,by simp,InsRow.nil _ _,by simp[Value.ownBlock],by simp⟩) (by simp) (s.data.toList++[46,97]) _ (bytes_cat s _)).mono ?_;rintro e w1 ⟨rfl,C1⟩;have HC1:=Lib.hid C1;clear C1
 go_wp2_with fail
 refine (op3_chain (HC1.out.quiet ((Mod.refl _ _).alloc _)) (by simp) 6 _ rfl w1.heap.size 0 5 0 3 (by simp) (by simp) (by simp) (by simp)).mono ?_;rintro e w2 ⟨rfl,C2⟩;have HC2:=Lib.hid C2;clear C2
 go_wp2_with fail
 refine (to1_chain (HC2.out.quiet ((Mod.refl _ _).alloc _)) (by simp) 14 _ rfl (s.data.toList++[46,98]) _ (bytes_cat s _) w2.heap.size 0 1 (by simp) (by simp)).mono ?_;rintro e w3 ⟨rfl,C3⟩;have HC3:=Lib.hid C3;clear C3
 go_wp2_with fail
 refine (op3_chain (HC3.out.quiet ((Mod.refl _ _).alloc _)) (by simp) 6 _ rfl w3.heap.size 2 0 1 3 (by simp) (by simp) (by simp) (by simp)).mono ?_;rintro e w4 ⟨rfl,C4⟩;have HC4:=Lib.hid C4;clear C4
 go_wp2_with fail
 refine (op2_chain (HC4.out.quiet ((Mod.refl _ _).alloc _)) (by simp) 1 _ rfl w4.heap.size 1 0 2 (by simp) (by simp) (by simp)).mono ?_;rintro e w5 ⟨rfl,C5⟩;have HC5:=Lib.hid C5;clear C5
 go_wp2_with fail
 refine (op3_chain (HC5.out.quiet ((Mod.refl _ _).alloc _)) (by simp) 9 _ rfl w5.heap.size 5 1 0 3 (by simp) (by simp) (by simp) (by simp)).mono ?_;rintro e w6 ⟨rfl,C6⟩;have HC6:=Lib.hid C6;clear C6
 go_wp2_with fail
 refine (to2_chain (HC6.out.quiet ((Mod.refl _ _).alloc _)) (by simp) 15 _ rfl (s.data.toList++[46,98]) _ (bytes_cat s _) w6.heap.size 0 1 2 (by simp) (by simp) (by simp)).mono ?_;rintro e w7 ⟨rfl,C7⟩;have HC7:=Lib.hid C7;clear C7
 go_wp2_with fail
 refine (to0_chain HC7.out (by simp) 16 _ rfl (s.data.toList++[46,97]) _ (bytes_cat s _)).mono ?_;rintro e w8 ⟨rfl,C8⟩;have HC8:=Lib.hid C8;clear C8
 go_wp2_with fail
 refine (label_chain HC8.out (by simp) (s.data.toList++[46,98]) _ (bytes_cat s _)).mono ?_;rintro e w9 ⟨rfl,C9⟩;have HC9:=Lib.hid C9;clear C9
 go_wp2_with fail
 refine (op2_chain (HC9.out.quiet ((Mod.refl _ _).alloc _)) (by simp) 1 _ rfl w9.heap.size 3 0 2 (by simp) (by simp) (by simp)).mono ?_;rintro e w10 ⟨rfl,C10⟩;have HC10:=Lib.hid C10;clear C10;obtain ⟨v,ec,hv⟩:=HC10.out.made (w:=w) (by simp[Value.ownBlock]) ((Mod.refl _ _).alloc _) (Nat.le_refl _)
 have Hv:=Lib.hid hv;clear hv;go_wp2;go_ret2;exact ⟨v,rfl,Hv.out⟩
end
section
open Go.RowKit Qs Qh
structure MkAt(w:World)(b:Nat)(br:ByteArray)(fe jo co:Bool)(s:ByteArray):Prop where
 c0:w.cell? ⟨b,0,none⟩=some (.string br)
 c1:w.cell? ⟨b,1,none⟩=some (.bool fe)
 c2:w.cell? ⟨b,2,none⟩=some (.bool jo)
 c3:w.cell? ⟨b,3,none⟩=some (.bool co)
 c5:w.cell? ⟨b,5,none⟩=some (.string s)
structure Cap(w:World)(b c:Nat)(u:Value):Prop where
 cell:w.cell? ⟨c,0,none⟩=some u
 lt:c<w.heap.size
 ne:c≠b
 row:∀v,w.cell? ⟨b,4,none⟩=some v→v.ownBlock≠some c
variable {w0 w w1:World}{b o:Nat}{v0:Value}{l:List Instr}{br s:ByteArray}{fe jo co:Bool}{u:Value}{c:Nat}
theorem MkAt.quiet(M:MkAt w b br fe jo co s)(h:Mod noF w w1):MkAt w1 b br fe jo co s:=
 ⟨h.cell M.c0 (fun e=>e),h.cell M.c1 (fun e=>e),h.cell M.c2 (fun e=>e),h.cell M.c3 (fun e=>e),h.cell M.c5 (fun e=>e)⟩
theorem Chain.mk(C:Chain w0 b 4 v0 l w)(M:MkAt w0 b br fe jo co s):MkAt w b br fe jo co s:=by
 obtain ⟨hb,v,E,G⟩:=C;exact ⟨G.cells 0 _ (by omega) M.c0,G.cells 1 _ (by omega) M.c1,G.cells 2 _ (by omega) M.c2,G.cells 3 _ (by omega) M.c3,G.cells 5 _ (by omega) M.c5⟩
theorem Chain.cap(C:Chain w0 b 4 v0 l w)(hq:Mod noF w w1)(hc:w.heap.size≤c)(hlt:c<w1.heap.size)(h:w1.cell? ⟨c,0,none⟩=some u):Cap w1 b c u:=by
 obtain ⟨v,C1,hv,hf,_⟩:=C.re hq;refine ⟨h,hlt,?_,fun v' hv' e=>?_⟩
 ·have:=C.lt;omega
 ·rw[hv]at hv';obtain rfl:=Option.some.inj hv';exact hf c hc e
theorem Cap.next{v:Value}{l':List Instr}(K:Cap w b c u)(hv:w.cell? ⟨b,4,none⟩=some v)(C:Chain w b 4 v l' w1):Cap w1 b c u:=by
 obtain ⟨hb,v',E,G⟩:=C;have hne:=K.row v hv;refine ⟨G.mod.cell K.cell (fun e=>e.elim K.ne hne),Nat.lt_of_lt_of_le K.lt G.mod.size,K.ne,fun v2 h2 e=>?_⟩;rw[E.cell]at h2;obtain rfl:=Option.some.inj h2
 rcases G.new c e with h|h
 ·exact hne h
 ·have:=K.lt;omega
theorem nameB_one{p:List UInt8}{c:UInt8}(h:nameB p=true)(hl:p.length≤8)(hc:chB c=true):nameB (p++[c])=true:=by
 match p,h with
 |d :: r,h=>
  simp only[nameB,Bool.and_eq_true,decide_eq_true_eq,List.all_cons]at h;obtain ⟨⟨h1,h2⟩,h3,h4⟩:=h;simp only[List.cons_append,nameB,Bool.and_eq_true,decide_eq_true_eq,List.all_cons,List.all_append,List.all_nil];refine ⟨⟨by simp at hl ⊢;omega,h2⟩,h3,h4,?_⟩;simp[hc]
theorem look_plus{c:UInt8}(hn:nameB s.data.toList=true)(hs:s.size≤4)(hc:chB c=true):LookOk (⟨(s.data.toList++[c]).toArray⟩:ByteArray) 7 1 0:=by
 have hl:s.data.toList.length=s.size:=bytes_len s;refine ⟨nameB_one hn (by omega) hc,?_,by decide,by decide,by decide,by decide,by decide,by decide,by decide,by decide⟩;show ((s.data.toList++[c]).toArray).size≤8;simp;simp at hl;omega
theorem take_plus(s:ByteArray)(w:World)(hn:nameB s.data.toList=true)(hs:s.size≤4)(x:ByteArray)(hx:(⟨(s.data.toList++[116]).toArray⟩:ByteArray)=x) :
  Calls Tryz.prog 121 #[.string x,.int .i64 7,.int .i64 1,.int .i64 0] w fun e w'=>∃v,e=.returned (.tuple #[v,.nilIface])∧Made (takeCode (s.data.toList++[116]) 7 1 0) w v w':=by
 subst hx;exact take_ok _ 7 1 0 w (look_plus hn hs (by decide))
theorem give_plus(s:ByteArray)(w:World)(hn:nameB s.data.toList=true)(hs:s.size≤4)(x:ByteArray)(hx:(⟨(s.data.toList++[103]).toArray⟩:ByteArray)=x) :
  Calls Tryz.prog 123 #[.string x,.int .i64 7,.int .i64 1,.int .i64 0] w fun e w'=>∃v,e=.returned (.tuple #[v,.nilIface])∧Made (giveCode 7 1 0) w v w':=by
 subst hx;exact give_ok _ 7 1 0 w (look_plus hn hs (by decide))
theorem gtake_chain(C:Chain w0 b 4 v0 l w)(M:MkAt w b br fe jo co s)(hlen:l.length≤1000)(hn:nameB s.data.toList=true)(hs:s.size≤4) :
  Calls Tryz.prog 108 #[.pointer (some ⟨b,0,none⟩)] w fun e w'=>e=.returned (.tuple #[])∧Chain w0 b 4 v0 (l++takeCode (s.data.toList++[116]) 7 1 0) w':=by
 have h5:=M.c5;have HC:=Lib.hid C;have Hn:=Lib.hid hn;clear C M hn
 go_enter Tryz.func108,Tryz.ntmps108
 go_wp2_with fail
 refine (take_plus s _ Hn.out hs _ (bytes_cat s _)).mono ?_;rintro e w1 ⟨v1,rfl,hm1⟩;have HC1:=Lib.hid (HC.out.quiet (Mod.below hm1.2.1));obtain ⟨g,c,rfl,hsA⟩:=InsRow.src hm1.1 (by simp[takeCode]);have HsA:=Lib.hid hsA;clear hm1 hsA HC
 go_wp2_with fail
 refine (more_chain HC1.out (by omega) (takeCode (s.data.toList++[116]) 7 1 0) g c HsA.out (by simp[takeCode])).mono ?_;rintro e w2 ⟨rfl,C2⟩;have HC2:=Lib.hid C2;clear C2;go_wp2
 go_end0
 exact ⟨rfl,HC2.out⟩
theorem ggive_chain(C:Chain w0 b 4 v0 l w)(M:MkAt w b br fe jo co s)(hlen:l.length≤1000)(hn:nameB s.data.toList=true)(hs:s.size≤4) :
  Calls Tryz.prog 110 #[.pointer (some ⟨b,0,none⟩)] w fun e w'=>e=.returned (.tuple #[])∧Chain w0 b 4 v0 (l++giveCode 7 1 0) w':=by
 have h5:=M.c5;have HC:=Lib.hid C;have Hn:=Lib.hid hn;clear C M hn
 go_enter Tryz.func110,Tryz.ntmps110
 go_wp2_with fail
 refine (give_plus s _ Hn.out hs _ (bytes_cat s _)).mono ?_;rintro e w1 ⟨v1,rfl,hm1⟩;have HC1:=Lib.hid (HC.out.quiet (Mod.below hm1.2.1));obtain ⟨g,c,rfl,hsA⟩:=InsRow.src hm1.1 (by simp[giveCode]);have HsA:=Lib.hid hsA;clear hm1 hsA HC
 go_wp2_with fail
 refine (more_chain HC1.out (by omega) (giveCode 7 1 0) g c HsA.out (by simp[giveCode])).mono ?_;rintro e w2 ⟨rfl,C2⟩;have HC2:=Lib.hid C2;clear C2;go_wp2
 go_end0
 exact ⟨rfl,HC2.out⟩
end
section
open Go.RowKit Qs Qh
structure Row(w:World)(b g:Nat)(l:List Int):Prop where
 cell:∀i x,l[i]?=some x→w.cell? ⟨g,i,none⟩=some (.int .i64 x)
 lt:g<w.heap.size
 ne:g≠b
 row:∀v,w.cell? ⟨b,4,none⟩=some v→v.ownBlock≠some g
def RowV(w:World)(b:Nat)(l:List Int)(u:Value):Prop:=∃g,u=.slice (some ⟨g,0,none⟩) l.length l.length∧Row w b g l
variable {w0 w w1:World}{b o g:Nat}{v0 v:Value}{l:List Instr}{z:List Int}
theorem Row.next{l':List Instr}(K:Row w b g z)(hv:w.cell? ⟨b,4,none⟩=some v)(C:Chain w b 4 v l' w1):Row w1 b g z:=by
 obtain ⟨hb,v',E,G⟩:=C;have hne:=K.row v hv;refine ⟨fun i x hx=>G.mod.cell (K.cell i x hx) (fun e=>e.elim K.ne hne),Nat.lt_of_lt_of_le K.lt G.mod.size,K.ne,fun v2 h2 e=>?_⟩;rw[E.cell]at h2;obtain rfl:=Option.some.inj h2
 rcases G.new g e with h|h
 ·exact hne h
 ·have:=K.lt;omega
theorem Row.quiet(K:Row w b g z)(hb:b<w.heap.size)(h:Mod noF w w1):Row w1 b g z:=
 ⟨fun i x hx=>h.cell (K.cell i x hx) (fun e=>e),Nat.lt_of_lt_of_le K.lt h.size,K.ne,fun v hv=>K.row v (by rw[←cell_same h hb];exact hv)⟩
theorem Row.fresh(C:Chain w0 b 4 v0 l w)(z:List Int)(t:TypeId):Row (w.alloc (.cells (z.map (Value.int .i64)).toArray t)) b w.heap.size z:=by
 obtain ⟨v,C1,hv,hf,_⟩:=C.re ((Mod.refl noF w).alloc (.cells (z.map (Value.int .i64)).toArray t));refine ⟨fun i x hx=>?_,by simp,?_,fun v' hv' e=>?_⟩
 ·rw[cell_of_heap ((heap_alloc_new w _).trans rfl)];simp[hx]
 ·have:=C.lt;omega
 ·rw[hv]at hv';obtain rfl:=Option.some.inj hv';exact hf _ (Nat.le_refl _) e
section
variable {P:Program}{ops:Array Oper}{Q:Exit→Act→World→Prop}{S:World→Prop}
end
end
section
open Go.RowKit Qs Qh
structure EmC where
 n:Nat
 z:List Int
 to:List UInt8
 kind:Nat
 lt:Nat
def EmC.ins(e:EmC):Instr:=⟨e.n,e.z.getD 0 0,e.z.getD 1 0,e.z.getD 2 0,e.to⟩
def slOk(x:Operand)(e:EmC)(s:Option (Nat × Tmp)):Bool:=match s with
 |some (_,t)=>isTmp x t
 |none=>e.z.isEmpty&&isNilRow x
def argsOk(A:Array Operand)(r:Nat)(e:EmC)(s:Option (Nat × Tmp)):Bool:=match e.kind,A.toList with
 |0,[x,y,z]=>isTmp x r&&isStr y (opStr e.n)&&slOk z e s&&e.to.isEmpty
 |1,[x,l,y,z]=>isTmp x r&&isTmp l e.lt&&isStr y (opStr e.n)&&slOk z e s
 |2,[x,l]=>isTmp x r&&isTmp l e.lt&&e.z.isEmpty&&e.n==17&&s.isNone
 |3,[x,y,z]=>isTmp x r&&isTmp y e.lt&&slOk z e s&&e.to.isEmpty
 |_,_=>false
def fnOf(k:Nat):Nat:=match k with|0=>49 | 1=>65 | 2=>64 | _=>49
def isInt(x:Operand)(v:Int):Bool:=match x with|.const (.int .i64 u)=>u==v|_=>false
def partsOk:List (Nat × Operand)→Nat→List Int→Bool
 |[],_,[]=>true
 |p :: r,i,x :: xs=>p.1==i&&isInt p.2 x&&partsOk r (i+1) xs
 |_,_,_=>false
def slcOk(ops:Array Oper)(z:List Int)(s:Option (Nat × Tmp)):Bool:=match s with
 |none=>true
 |some (i,t)=>match ops[i]? with
  |some o=>(match o.op with|.buildSlice ty n parts=>ty == 23 && n==z.length&&decide (0<z.length)&&decide (z.length≤3)&&partsOk parts.toList 0 z|_=>false)&&o.dst==some t
  |none=>false
def emRow(ops:Array Oper)(out:List Nat):Nat→List SpI→List EmC→Bool
 |_,[],[]=>true
 |r,x :: xs,e :: es=>(match ops[x.c]? with
   |some o=>(match callOf o.op with|some (f,A)=>f==fnOf e.kind&&argsOk A r e x.s&&decide (e.kind≤3)|none=>false)&&o.dst==some x.q
   |none=>false)&&slcOk ops e.z x.s&&(e.kind==0 || !out.contains e.lt)&&emRow ops out x.q xs es
 |_,_,_=>false
theorem isInt_spec{x:Operand}{v:Int}(h:isInt x v=true):x=.const (.int .i64 v):=by
 unfold isInt at h
 split at h
 ·rw[beq_iff_eq]at h;rw[h]
 ·cases h
theorem partsOk_spec:∀(l:List (Nat × Operand)) (i:Nat) (z:List Int),partsOk l i z=true→l=(z.zipIdx i).map fun x=>(x.2,Operand.const (Value.int .i64 x.1))
 |[],_,[],_=>rfl
 |[],_,_ :: _,h=>by simp[partsOk]at h
 |(k,o) :: r,i,[],h=>by simp[partsOk]at h
 |(k,o) :: r,i,x :: xs,h=>by
  simp only[partsOk,Bool.and_eq_true,beq_iff_eq]at h;obtain ⟨⟨rfl,h2⟩,h3⟩:=h;rw[isInt_spec h2,partsOk_spec r _ xs h3];rfl
def SlV(w:World)(b:Nat)(z:List Int)(u:Value):Prop:=(z=[]∧u=.slice none 0 0)∨((1≤z.length∧z.length≤3)∧RowV w b z u)
theorem RowV.cells{w:World}{b:Nat}{z:List Int}{u:Value}(h:RowV w b z u):∃g,u=.slice (some ⟨g,0,none⟩) z.length z.length∧g<w.heap.size∧∀i x,z[i]?=some x→w.cell? ⟨g,i,none⟩=some (.int .i64 x):=by
 obtain ⟨g,rfl,R⟩:=h;exact ⟨g,rfl,R.lt,R.cell⟩
variable {w0 w w1:World}{b o:Nat}{v0 v:Value}{l:List Instr}
theorem em_op(C:Chain w0 b 4 v0 l w)(hlen:l.length≤1000000)(n:Nat){z:List Int}{u:Value}(h:SlV w b z u) :
  Calls Tryz.prog 49 #[.pointer (some ⟨b,4,none⟩),.string (opStr n),u] w fun e w'=>e=.returned (.pointer (some ⟨b,4,none⟩))∧Chain w0 b 4 v0 (l++[⟨n,z.getD 0 0,z.getD 1 0,z.getD 2 0,[]⟩]) w':=by
 rcases h with ⟨rfl,rfl⟩|⟨⟨h1,h3⟩,h⟩
 ·exact op0_chain C hlen n _ rfl
 ·obtain ⟨g,rfl,hg,hc⟩:=h.cells
  match z,h1,h3 with
  |[x],_,_=>exact op1_chain C hlen n _ rfl g x 1 (hc 0 x rfl) hg
  |[x,y],_,_=>exact op2_chain C hlen n _ rfl g x y 2 (hc 0 x rfl) (hc 1 y rfl) hg
  |[x,y,t],_,_=>exact op3_chain C hlen n _ rfl g x y t 3 (hc 0 x rfl) (hc 1 y rfl) (hc 2 t rfl) hg
  |_ :: _ :: _ :: _ :: _,_,h3=>exact absurd h3 (by simp)
theorem em_to(C:Chain w0 b 4 v0 l w)(hlen:l.length≤1000000)(n:Nat){z:List Int}{u:Value}(h:SlV w b z u)(hz:z.length≤2)(to:List UInt8) :
  Calls Tryz.prog 65 #[.pointer (some ⟨b,4,none⟩),.string ⟨to.toArray⟩,.string (opStr n),u] w fun e w'=>e=.returned (.pointer (some ⟨b,4,none⟩))∧Chain w0 b 4 v0 (l++[⟨n,z.getD 0 0,z.getD 1 0,z.getD 2 0,to⟩]) w':=by
 rcases h with ⟨rfl,rfl⟩|⟨⟨h1,h3⟩,h⟩
 ·exact to0_chain C hlen n _ rfl to _ rfl
 ·obtain ⟨g,rfl,hg,hc⟩:=h.cells
  match z,h1,hz with
  |[x],_,_=>exact to1_chain C hlen n _ rfl to _ rfl g x 1 (hc 0 x rfl) hg
  |[x,y],_,_=>exact to2_chain C hlen n _ rfl to _ rfl g x y 2 (hc 0 x rfl) (hc 1 y rfl) hg
  |_ :: _ :: _ :: _,_,h3=>exact absurd h3 (by simp)
theorem wp_slc{x:Oper}{a:Act}{K:Act→World→Prop}{Q:Exit→Act→World→Prop}{z:List Int}{parts:Array (Nat × Operand)}(ho:x.op=.buildSlice 23 z.length parts)(hp:partsOk parts.toList 0 z=true)(h1:0<z.length)(h3:z.length≤3)
  (h:K (a.put x.dst (.slice (some ⟨w.heap.size,0,none⟩) z.length z.length)) (w.alloc (.cells (z.map (Value.int .i64)).toArray 3))):x.wp Tryz.prog a w K Q:=by
 obtain ⟨hsz,hz⟩:=intsInfo
 cases hie : Tryz.prog.info? 3 with
 |none=>simp[hie]at hsz
 |some ie=>
  simp only[hie,Option.map_some,Option.some.injEq,Option.bind_some]at hsz hz;obtain ⟨zz,hzz⟩:=Option.isSome_iff_exists.1 hz;refine wp_buildSlice 23 3 z.length parts ho _ ie zz Tryz.underlying23 hie hzz (by rw[hsz];omega) (by rw[hsz];omega) ?_ h
  rw[parts_eval a parts .i64 z (partsOk_spec _ _ _ hp),hsz];exact Great.fill_flat _ _ (fun v hv=>by obtain ⟨n,_,rfl⟩:=List.mem_map.1 hv;rfl) (by simp)
theorem emRow_at{ops:Array Oper}{out:List Nat}:∀ {items:List SpI} {E:List EmC} {r:Nat},emRow ops out r items E=true→∀ {j:Nat} {x:SpI},items[j]?=some x→∃e,E[j]?=some e∧∃p:Nat,((j=0∧p=r)∨∃j' x',j=j'+1∧items[j']?=some x'∧p=x'.q)∧
  (∃o f A,ops[x.c]?=some o∧callOf o.op=some (f,A)∧f=fnOf e.kind∧argsOk A p e x.s=true∧e.kind≤3∧o.dst=some x.q)∧slcOk ops e.z x.s=true∧(e.kind=0∨e.lt ∉ out)
 |[],_,_,_,j,x,hx=>by simp at hx
 |y :: r,[],_,h,j,x,hx=>by simp[emRow]at h
 |y :: ys,e :: es,r,h,j,x,hx=>by
  simp only[emRow,Bool.and_eq_true]at h;obtain ⟨⟨⟨h1,h2⟩,h4⟩,h3⟩:=h
  cases j with
  |zero=>
   simp at hx;subst hx;refine ⟨e,rfl,r,.inl ⟨rfl,rfl⟩,?_,h2,?_⟩
   ·cases ho:ops[y.c]? with
    |none=>rw[ho]at h1;cases h1
    |some o=>
     rw[ho]at h1;simp only[Bool.and_eq_true,beq_iff_eq]at h1;obtain ⟨h1,hd⟩:=h1
     cases hc:callOf o.op with
     |none=>rw[hc]at h1;cases h1
     |some p=>
      obtain ⟨f,A⟩:=p;rw[hc]at h1;simp only[Bool.and_eq_true,beq_iff_eq,decide_eq_true_eq]at h1;exact ⟨o,f,A,rfl,hc,h1.1.1,h1.1.2,h1.2,hd⟩
   ·simpa using h4
  |succ j=>
   obtain ⟨e',he',p,hp,r1,r2,r3⟩:=emRow_at h3 (j:=j) (by simpa using hx);refine ⟨e',by simpa using he',p,.inr ?_,r1,r2,r3⟩
   rcases hp with ⟨rfl,rfl⟩|⟨j',x',rfl,hx',rfl⟩
   ·exact ⟨0,y,rfl,rfl,rfl⟩
   ·exact ⟨j'+1,x',rfl,by simpa using hx',rfl⟩
def EmZ(w0:World)(b:Nat)(v0:Value)(l:List Instr)(E:List EmC)(k:Nat)(w:World):Prop:=Chain w0 b 4 v0 (l++(E.take k).map EmC.ins) w
def EmB(b:Nat)(E:List EmC)(j:Nat)(u:Value)(w:World):Prop:=∀e,E[j]?=some e→RowV w b e.z u
theorem em_spine{ops:Array Oper}{Q:Exit→Act→World→Prop}{S:World→Prop}{L0:Array Bool}{a0:Act}{items:List SpI}{E:List EmC}{r0 fuel:Nat}
  (hb:spB ops L0 items a0.tmps.size=true) (hrow:emRow ops (spTmps items) r0 items E=true) (hr0:(spTmps items).contains r0=false) (hptr:a0.eval (.tmp r0)=.pointer (some ⟨b,4,none⟩))
  (hlb:∀e∈E,e.kind≠0→a0.eval (.tmp e.lt)=.string (if e.kind=3 then opStr e.n else ⟨e.to.toArray⟩)) (hz2:(E.all fun e=>e.kind==0||e.kind==3||decide (e.z.length≤2))=true) (hEl:items.length=E.length) (hl:l.length+E.length≤1000000)
  (hS:∀w' l',Chain w0 b 4 v0 l' w'→S w') (C:Chain w0 b 4 v0 l w) (hfuel:decide (((List.range ops.size).filter fun i=>!L0.getD i true).length≤fuel)=true)
  (hend:∀(U:Nat→Value) w',Chain w0 b 4 v0 (l++E.map EmC.ins) w'→(∀(j:Nat) (x:SpI),items[j]?=some x→U x.q=.pointer (some ⟨b,4,none⟩))→Q .normal (patch (spTmps items) U a0) w') :
  wpAnyH Tryz.prog .any ops Q S fuel L0 a0 w:=by
 have hb':=hb;simp only[spB,Bool.and_eq_true,decide_eq_true_eq,List.all_eq_true,List.mem_range,Bool.or_eq_true]at hb';obtain ⟨⟨⟨⟨⟨F1,F2⟩,F3⟩,F6⟩,F7⟩,F8⟩:=hb'
 have hrl:∀(j:Nat) x,items[j]?=some x→j<E.length:=fun j x hx=>by rw[←hEl];exact (List.getElem?_eq_some_iff.1 hx).1
 refine spine_go (P:=Tryz.prog) (Z:=EmZ w0 b v0 l E) (B:=EmB b E) (ret:=fun _=>.pointer (some ⟨b,4,none⟩)) hb ?_ ?_ ?_ fuel L0 a0 w 0 ((List.range ops.size).filter fun i=>!L0.getD i true) ⟨F1,fun _ h=>h,rfl,rfl,fun _ _=>rfl,Nat.zero_le _,by simpa[EmZ]using C,fun j x hx=>⟨fun h=>?_,fun h=>absurd h (by omega)⟩,fun j x hx h=>absurd h (by omega),fun j x i t hx hs h=>?_⟩ (fun i hi h=>?_) ?_
 ·
  intro j x i t o k a w K hx hs ho hZ _hout hK;obtain ⟨e,he,p,hp,hc,hsl,hlt⟩:=emRow_at hrow hx;unfold slcOk at hsl;rw[hs]at hsl;simp only[ho,Bool.and_eq_true,beq_iff_eq]at hsl;obtain ⟨hsl,hd⟩:=hsl
  split at hsl
  ·rename_i ty n parts hop
   simp only[Bool.and_eq_true,beq_iff_eq,decide_eq_true_eq]at hsl;obtain ⟨⟨⟨⟨rfl,rfl⟩,g1⟩,g3⟩,gp⟩:=hsl;refine wp_slc hop gp g1 g3 ?_;rw[hd];have hZ':Chain w0 b 4 v0 _ w:=hZ
   refine hK _ _ (hZ'.quiet ((Mod.refl _ _).alloc _)) (hS _ _ (hZ'.quiet ((Mod.refl _ _).alloc _))) (fun e' he'=>?_) fun j' u' hB e' he'=>?_
   ·obtain rfl:e=e':=Option.some.inj (he.symm.trans he');exact ⟨w.heap.size,rfl,Row.fresh hZ' e.z _⟩
   ·obtain ⟨g,rfl,R⟩:=hB e' he';exact ⟨g,rfl,R.quiet hZ'.lt ((Mod.refl _ _).alloc _)⟩
  ·cases hsl
 ·
  intro j x o a w K hx ho hZ hdef hout hret hrw hK;obtain ⟨e,he,p,hp,⟨o',f,A,ho',hcall,rfl,hargs,hk2,hd⟩,hsl,hlt⟩:=emRow_at hrow hx;obtain rfl:o=o':=Option.some.inj (ho.symm.trans ho');have hZ':Chain w0 b 4 v0 _ w:=hZ
  have hpv:a.eval (.tmp p)=.pointer (some ⟨b,4,none⟩):=by
   rcases hp with ⟨rfl,rfl⟩|⟨j',x',rfl,hx',rfl⟩
   ·rw[hout _ (by intro h;rw[List.contains_iff_mem.2 h]at hr0;cases hr0)];exact hptr
   ·exact hret j' x' (by omega) hx'
  have hlab:e.kind≠0→a.eval (.tmp e.lt)=.string (if e.kind=3 then opStr e.n else ⟨e.to.toArray⟩):=fun hk=>by
   rw[hout _ (hlt.resolve_left hk)];exact hlb e (List.mem_of_getElem? he) hk
  have hslv:∀z,slOk z e x.s=true→SlV w b e.z (a.eval z):=fun z hz=>by
   unfold slOk at hz
   cases hs:x.s with
   |none=>
    rw[hs]at hz;simp only[Bool.and_eq_true,List.isEmpty_iff]at hz;rw[isNilRow_spec hz.2];exact .inl ⟨hz.1,rfl⟩
   |some it=>
    obtain ⟨i,t⟩:=it;rw[hs]at hz hsl;rw[isTmp_spec hz];refine .inr ⟨?_,hrw i t hs e he⟩;unfold slcOk at hsl;simp only at hsl
    cases ho2:ops[i]? with
    |none=>rw[ho2]at hsl;cases hsl
    |some o2=>
     rw[ho2]at hsl;simp only[Bool.and_eq_true,beq_iff_eq]at hsl;obtain ⟨hsl,_⟩:=hsl
     split at hsl
     ·simp only[Bool.and_eq_true,beq_iff_eq,decide_eq_true_eq]at hsl;exact ⟨hsl.1.1.2,hsl.1.2⟩
     ·cases hsl
  have hz2':e.kind≠0→e.kind≠3→e.z.length≤2:=fun hk hk3=>by
   have:=List.all_eq_true.1 hz2 e (List.mem_of_getElem? he);simp only[Bool.or_eq_true,beq_iff_eq,decide_eq_true_eq]at this;exact this.resolve_left (fun h=>h.elim hk hk3)
  have hjl:=hrl j x hx
  have htake:(E.take (j+1)).map EmC.ins=(E.take j).map EmC.ins++[e.ins]:=by
   rw[List.take_add_one,he];simp
  have hll:(l++(E.take j).map EmC.ins).length≤1000000:=by simp;omega
  obtain ⟨v1,C1,hv1,-,hk1⟩:=hZ'.re (Mod.refl noF w)
  have fin:∀w',Chain w b 4 v1 ((l++(E.take j).map EmC.ins)++[e.ins]) w'→∃v,Ending.returned (.pointer (some ⟨b,4,none⟩))=.returned v∧K (a.put o.dst v) w':=fun w' hC=>by
   refine ⟨_,rfl,?_⟩;rw[hd];have hC0:=hk1 _ _ hC;refine hK w' ?_ (hS _ _ hC0) fun j' u' hB e' he'=>?_
   ·show Chain w0 b 4 v0 _ w';rw[htake,←List.append_assoc];exact hC0
   ·obtain ⟨g,rfl,R⟩:=hB e' he';exact ⟨g,rfl,R.next hv1 hC⟩
  unfold argsOk at hargs
  split at hargs
  ·rename_i hk hA
   simp only[Bool.and_eq_true,List.isEmpty_iff]at hargs;obtain ⟨⟨⟨h1,h2⟩,h3⟩,h4⟩:=hargs;rw[hk]at hcall;refine wp_callOf callEmOp hcall ?_
   rename_i y1 y2 y3
   have hA':A=#[y1,y2,y3]:=Array.ext' (by simpa using hA);subst hA';simp only[List.map_toArray,List.map_cons,List.map_nil,isTmp_spec h1,isStr_spec h2,hpv];refine (em_op C1 hll e.n (hslv _ h3)).mono ?_;rintro e' w' ⟨rfl,hC⟩
   have:e.ins=⟨e.n,e.z.getD 0 0,e.z.getD 1 0,e.z.getD 2 0,[]⟩:=by unfold EmC.ins;rw[h4]
   exact fin w' (by rw[this];exact hC)
  ·rename_i hk hA
   simp only[Bool.and_eq_true]at hargs;obtain ⟨⟨⟨h1,h2⟩,h3⟩,h4⟩:=hargs;rw[hk]at hcall;refine wp_callOf callEmTo hcall ?_
   rename_i y1 y2 y3 y4
   have hA':A=#[y1,y2,y3,y4]:=Array.ext' (by simpa using hA);subst hA';simp only[List.map_toArray,List.map_cons,List.map_nil,isTmp_spec h1,isTmp_spec h2,isStr_spec h3,hpv,hlab (by omega),if_neg (show ¬e.kind=3 by omega)];refine (em_to C1 hll e.n (hslv _ h4) (hz2' (by omega) (by omega)) e.to).mono ?_
   rintro e' w' ⟨rfl,hC⟩;exact fin w' hC
  ·rename_i hk hA
   simp only[Bool.and_eq_true,List.isEmpty_iff,beq_iff_eq]at hargs;obtain ⟨⟨⟨⟨h1,h2⟩,h3⟩,h4⟩,h5⟩:=hargs;clear h5;rw[hk]at hcall;refine wp_callOf callEmLabel hcall ?_
   rename_i y1 y2
   have hA':A=#[y1,y2]:=Array.ext' (by simpa using hA);subst hA';simp only[List.map_toArray,List.map_cons,List.map_nil,isTmp_spec h1,isTmp_spec h2,hpv,hlab (by omega),if_neg (show ¬e.kind=3 by omega)];refine (label_chain C1 hll e.to _ rfl).mono ?_;rintro e' w' ⟨rfl,hC⟩
   have:e.ins=⟨17,0,0,0,e.to⟩:=by unfold EmC.ins;rw[h3,h4];rfl
   exact fin w' (by rw[this];exact hC)
  ·rename_i hk hA
   simp only[Bool.and_eq_true,List.isEmpty_iff]at hargs;obtain ⟨⟨⟨h1,h2⟩,h3⟩,h4⟩:=hargs;rw[hk]at hcall;refine wp_callOf callEmOp hcall ?_
   rename_i y1 y2 y3
   have hA':A=#[y1,y2,y3]:=Array.ext' (by simpa using hA);subst hA';simp only[List.map_toArray,List.map_cons,List.map_nil,isTmp_spec h1,isTmp_spec h2,hpv,hlab (by omega),if_pos hk];refine (em_op C1 hll e.n (hslv _ h3)).mono ?_;rintro e' w' ⟨rfl,hC⟩
   have:e.ins=⟨e.n,e.z.getD 0 0,e.z.getD 1 0,e.z.getD 2 0,[]⟩:=by unfold EmC.ins;rw[h4]
   exact fin w' (by rw[this];exact hC)
  ·cases hargs
 ·intro a w hZ hdef hsz hout hret;have h:=hend (fun t=>a.eval (.tmp t)) w (by have:EmZ w0 b v0 l E items.length w:=hZ;unfold EmZ at this;rw[hEl,List.take_length]at this;exact this) hret;rw[patch_self _ _ _ hdef hsz hout]at h;exact h
 ·have:=F3 x.c (mem_spIdx.2 ⟨j,x,hx,x.c_mem⟩);rw[h]at this;cases this
 ·have:=F3 i (mem_spIdx.2 ⟨j,x,hx,SpI.i_mem hs⟩);rw[h]at this;cases this
 ·rw[List.mem_filter];exact ⟨List.mem_range.2 hi,by rw[h];rfl⟩
 ·exact of_decide_eq_true hfuel
end
section
open Go.RowKit Qs Qh
variable {w w1 w2:World}{b k:Nat}{v v1 v2:Value}{l:List Instr}
theorem MkStep.old(h:MkStep w b v w1 v1){p:Addr}(hne:p.block≠b)(hv:v.ownBlock≠some p.block){u:Value}(hp:w.cell? p=some u):w1.cell? p=some u:=
 h.mod.cell hp (fun e=>e.elim hne hv)
theorem Chain.mine{w0:World}{v0:Value}{o:Nat}(C:Chain w0 b o v0 l w){p:Addr}(hne:p.block≠b)(hv:v0.ownBlock≠some p.block){u:Value}(hp:w0.cell? p=some u):w.cell? p=some u:=by
 obtain ⟨hb,v,E,G⟩:=C;exact G.mod.cell hp (fun e=>e.elim hne hv)
end
section
open Go.RowKit Qs Qh
def renI:Go.Shelf.Ren:=⟨fun|129=>133 | 171=>95 | 243=>119 | 246=>126 | 283=>128 | 284=>129 | 285=>130 | 286=>131 | 317=>132 | 318=>134 | 319=>135 | 320=>136 | 337=>137 | 338=>138 | n=>n,fun|0=>0|2=>2 | 3=>3 | 4=>4 | 5=>5 | 9=>9 | 20=>20 | 37=>214 | 46=>189 | 51=>219 | 53=>211 | 171=>210 | 173=>215|212=>218 | 213=>220 | 232=>223 | 233=>224 | n=>n,fun|17=>11 | 18=>12 | 19=>13 | n=>n⟩
theorem laysI:LaysM.n171 Tryz.prog renI:={mixed:=by kernel_rfl,f129:=by kernel_rfl,f171:=by kernel_rfl,f243:=by kernel_rfl,f246:=by kernel_rfl,f283:=by kernel_rfl,f284:=by kernel_rfl,f285:=by kernel_rfl,f286:=by kernel_rfl,f317:=by kernel_rfl,f318:=by kernel_rfl,f319:=by kernel_rfl,f320:=by kernel_rfl,f337:=by kernel_rfl,f338:=by kernel_rfl,t0:=by kernel_rfl,a0:=fun _=>by kernel_rfl,z0:=fun _=>by kernel_rfl,v0:=fun _=>by kernel_rfl,t2:=by kernel_rfl,a2:=fun _=>by kernel_rfl,z2:=fun _=>by kernel_rfl,v2:=fun _=>by kernel_rfl,t3:=by kernel_rfl,a3:=fun _=>by kernel_rfl,z3:=fun _=>by kernel_rfl,v3:=fun _=>by kernel_rfl,t4:=by kernel_rfl,a4:=fun _=>by kernel_rfl,z4:=fun _=>by kernel_rfl,v4:=fun _=>by kernel_rfl,t5:=by kernel_rfl,a5:=fun _=>by kernel_rfl,z5:=fun _=>by kernel_rfl,v5:=fun _=>by kernel_rfl,t9:=by kernel_rfl,a9:=fun _=>by kernel_rfl,z9:=fun _=>by kernel_rfl,v9:=fun _=>by kernel_rfl,t20:=by kernel_rfl,a20:=fun _=>by kernel_rfl,z20:=fun _=>by kernel_rfl,v20:=fun _=>by kernel_rfl,t37:=by kernel_rfl,a37:=fun _=>by kernel_rfl,z37:=fun _=>by kernel_rfl,v37:=fun _=>by kernel_rfl,t46:=by kernel_rfl,a46:=fun _=>by kernel_rfl,z46:=fun _=>by kernel_rfl,v46:=fun _=>by kernel_rfl,t51:=by kernel_rfl,a51:=fun _=>by kernel_rfl,z51:=fun _=>by kernel_rfl,v51:=fun _=>by kernel_rfl,t53:=by kernel_rfl,a53:=fun _=>by kernel_rfl,z53:=fun _=>by kernel_rfl,v53:=fun _=>by kernel_rfl,t171:=by kernel_rfl,a171:=fun _=>by kernel_rfl,z171:=fun _=>by kernel_rfl,v171:=fun _=>by kernel_rfl,t173:=by kernel_rfl,a173:=fun _=>by kernel_rfl,z173:=fun _=>by kernel_rfl,v173:=fun _=>by kernel_rfl,t212:=by kernel_rfl,a212:=fun _=>by kernel_rfl,z212:=fun _=>by kernel_rfl,v212:=fun _=>by kernel_rfl,t213:=by kernel_rfl,a213:=fun _=>by kernel_rfl,z213:=fun _=>by kernel_rfl,t232:=by kernel_rfl,a232:=fun _=>by kernel_rfl,z232:=fun _=>by kernel_rfl,v232:=fun _=>by kernel_rfl,t233:=by kernel_rfl,a233:=fun _=>by kernel_rfl,z233:=fun _=>by kernel_rfl,v233:=fun _=>by kernel_rfl,g17:=by kernel_rfl,g18:=by kernel_rfl,g19:=by kernel_rfl,i0:=by kernel_rfl,i2:=by kernel_rfl,i3:=by kernel_rfl,i4:=by kernel_rfl,i5:=by kernel_rfl,i9:=by kernel_rfl,i20:=by kernel_rfl,i37:=by kernel_rfl,i46:=by kernel_rfl,i51:=by kernel_rfl,i53:=by kernel_rfl,i171:=by kernel_rfl,i173:=by kernel_rfl,i212:=by kernel_rfl,i232:=by kernel_rfl,i233:=by kernel_rfl,m17:=by kernel_rfl,m18:=by kernel_rfl,m19:=by kernel_rfl}
theorem mod_grow{w w':World}(k:Nat)(os:Array Obj)(h:Mod noF w w'):Mod noF w (Go.Sort.grow (w'.drewN k) os):=
 (h.drewN k).trans0 ⟨rfl,rfl,rfl,by simp[Go.Sort.grow],fun j hj _=>by
  unfold Go.Sort.grow;simp only
  rw[Array.getElem?_append_left hj]⟩
theorem itoaW{w:World}(hT:TabW w)(n:Nat)(hn:n≤1000):Calls Tryz.prog 95 #[.int .i64 n] w fun e w'=>e=.returned (.string ⟨(Lib.itoa n).toArray⟩)∧Mod noF w w':=by
 have h:=Any.strconv_Itoa laysI (n:Int) (by omega) (by omega) w (by
  obtain ⟨T,fr,h⟩:=hT;unfold Lib.TabIs World.var?;rw[show Tryz.prog.globalNamed _=some 11 by kernel_rfl]
  simp only[Option.bind_some,h])
 exact h.mono fun e w' ⟨h1,k,os,h2⟩=>⟨h1,h2 ▸ mod_grow k os (Mod.refl noF w)⟩
theorem labN_bytes:∀k,k<128→(⟨#[111]⟩:ByteArray)++⟨(Lib.itoa (k:Nat)).toArray⟩=⟨(Qu.labN k).toArray⟩:=by decide +kernel
theorem itoa_len:∀k,k<128→(⟨(Lib.itoa (k:Nat)).toArray⟩:ByteArray).size≤3:=by decide +kernel
theorem freshB{N0:Nat}{f t nx:Int}(hL:lowT N0):FreshH N0 True f t nx 101:=fun w b v l k hk M=>by
 obtain ⟨M1,S1⟩:=M.tick (fun _=>hL) (k+1);have h4:=M.m.cnt;have hf:=M.m.free;have hc:=World.cell?_setCell_same w ⟨b,4,none⟩ (.int .i64 ((k:Int)+1)) h4;have H:=Lib.hid (itoaW (M1.tab trivial) (k+1) (by omega));have hb:=labN_bytes (k+1) (by omega);have Hb:=Lib.hid hb
 have hsz:¬9223372036854775807<1+(⟨(Lib.itoa ((k+1:Nat):Int)).toArray⟩:ByteArray).size:=by have:=itoa_len (k+1) (by omega);omega
 generalize (⟨(Lib.itoa ((k+1:Nat):Int)).toArray⟩:ByteArray)=bs at *;have HM1:=Lib.hid M1;have HS1:=Lib.hid S1;clear hb M M1 S1
 go_enter Tryz.func73,Tryz.ntmps73
 go_wp2_with (go_at_call 95;refine (H.out).mono ?_;rintro e w' ⟨rfl,hm⟩)
 go_ret;rw[Hb.out];exact ⟨rfl,HM1.out.quiet hm,HS1.out.quiet hm⟩
end
end Go.Proofs.YtppihkneeolomaaGreatDoor
