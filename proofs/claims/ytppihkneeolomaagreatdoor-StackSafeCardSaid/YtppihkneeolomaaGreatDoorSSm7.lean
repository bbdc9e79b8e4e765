/- Texts that belong together, joined. -/
import Derived.Test.YtppihkneeolomaaGreatDoorSSm6
import Derived.Test.YtppihkneeolomaaGreatDoorSSNewWalk
import Derived.Test.YtppihkneeolomaaGreatDoorSSm1
import Derived.Test.YtppihkneeolomaaGreatDoorSSDrain
import Derived.Test.YtppihkneeolomaaGreatDoorSSm2
import Derived.Deep.LoopGhost
import Derived.Test.YtppihkneeolomaaGreatDoorSSGraceB
import Derived.Test.YtppihkneeolomaaGreatDoorSSm3
import Derived.Deep.RegionHeld3
import Derived.Test.YtppihkneeolomaaGreatDoorSSm5
set_option linter.unusedVariables false
set_option linter.unusedSimpArgs false
set_option linter.unusedSectionVars false
set_option maxHeartbeats 16000000
set_option maxRecDepth 100000
namespace Go.Proofs.YtppihkneeolomaaGreatDoor
section
open Go.RowKit Qs Qh
def rwU(l:List Int)(b:Nat):Value:=if l.length=0 then .slice none 0 0 else .slice (some ⟨b,0,none⟩) l.length l.length
def rwV(ll:List (List Int))(bl:Nat→Nat):List Value:=ll.mapIdx fun i l=>rwU l (bl i)
structure Rws(lo hi:Nat)(w:World)(v:Value)(ll:List (List Int))(bl:Nat→Nat):Prop where
 own:w.ownsRow 0 23 1 v ll.length (rwV ll bl)
 row:∀(i:Nat) l,ll[i]?=some l→l.length≠0→w.heap[bl i]?=some (.cells (l.map (Value.int .i64)).toArray 3 (0,0))
 vin:∀g,v.ownBlock=some g→lo≤g∧g<hi
 bin:∀(i:Nat) l,ll[i]?=some l→l.length≠0→lo≤bl i∧bl i<hi
 vne:∀g (i:Nat) l,v.ownBlock=some g→ll[i]?=some l→l.length≠0→g≠bl i
 inj:∀(i j:Nat) l l',ll[i]?=some l→ll[j]?=some l'→l.length≠0→l'.length≠0→bl i=bl j→i=j
variable {lo hi:Nat}{w w1 w3 w4:World}{v v4:Value}{ll:List (List Int)}{bl:Nat→Nat}
theorem Rws.nil(lo hi:Nat)(w:World)(bl:Nat→Nat):Rws lo hi w (.slice none 0 0) [] bl:=
 ⟨World.ownsRow_nil w 0 _ 1,fun i l h _=>by simp at h,fun g h=>(by cases h),fun i l h _=>by simp at h,fun g i l h _ _=>(by cases h),fun i j l l' h _ _ _ _=>by simp at h⟩
theorem Rws.keep(R:Rws lo hi w v ll bl){F:Nat→Prop}(hM:Mod F w w1)(hF:∀k,lo≤k→k<hi→¬F k):Rws lo hi w1 v ll bl:=by
 refine ⟨⟨R.own.1,?_⟩,fun i l h h0=>hM.heap (R.row i l h h0) (hF _ (R.bin i l h h0).1 (R.bin i l h h0).2),R.vin,R.bin,R.vne,R.inj⟩
 rcases R.own.2 with e|⟨g,cap,cur,rfl,h0,hg,r⟩
 ·exact .inl e
 ·exact .inr ⟨g,cap,cur,rfl,h0,hM.heap hg (hF _ (R.vin g rfl).1 (R.vin g rfl).2),r⟩
theorem rwV_push(l:List Int)(r:Nat):rwV (ll++[l]) (fun i=>if i=ll.length then r else bl i)=rwV ll bl++[rwU l r]:=by
 unfold rwV;rw[List.mapIdx_concat];simp only[if_true]
 congr 1
 refine List.ext_getElem? fun i=>?_;rw[List.getElem?_mapIdx,List.getElem?_mapIdx]
 by_cases h:i<ll.length
 ·rw[if_neg (by omega)]
 ·rw[List.getElem?_eq_none (by omega)];rfl
theorem Rws.push0{lo0:Nat}(h00:lo0≤lo)(R:Rws lo hi w v ll bl)(hhi:hi≤w.heap.size)(hlo:lo≤w.heap.size)(hM:Mod noF w w3){l:List Int}{r:Nat}{B o:Nat}(hr0:l.length≠0→lo0≤r∧r≠B∧(hi≤r∨r<lo))(hr:l.length≠0→w3.heap[r]?=some (.cells (l.map (Value.int .i64)).toArray 3 (0,0)))
  (hown:w4.ownsRow 0 23 1 v4 (ll.length+1) (rwV ll bl++[rwU l r])) (hg:w3.grownBy w4 v.ownBlock) (hfr:∀g,v4.ownBlock=some g→v.ownBlock=some g∨w3.heap.size≤g)
  (hB:∀k,lo≤k→k<hi→k≠B) (hBs:B<w.heap.size) :
  Rws lo0 w4.heap.size (w4.setCell ⟨B,o,none⟩ v4) v4 (ll++[l]) (fun i=>if i=ll.length then r else bl i)∧Mod (fun k=>k=B∨v.ownBlock=some k) w (w4.setCell ⟨B,o,none⟩ v4):=by
 have hM4:Mod (fun x=>v.ownBlock=some x) w w4:=hM.any.grown hg fun j hj _=>hj;have hM4b:Mod (fun x=>v.ownBlock=some x) w3 w4:=(Mod.refl (fun x=>v.ownBlock=some x) w3).grown hg fun j hj _=>hj;have hM5:Mod (fun x=>x=B) w4 (w4.setCell ⟨B,o,none⟩ v4):=(Mod.refl (fun x=>x=B) w4).setCell (fun _=>rfl) v4
 have hall:Mod (fun x=>x=B∨v.ownBlock=some x) w (w4.setCell ⟨B,o,none⟩ v4):=(hM4.mono fun x _ hx=>.inr hx).trans hM5 fun x _ hx=>.inl hx;have hs1:=hM.size;have hs2:=hM4b.size
 have hget:∀ {i:Nat} {x:List Int},(ll++[l])[i]?=some x→(i<ll.length∧ll[i]?=some x)∨(i=ll.length∧x=l):=fun {i x} h=>by
  by_cases hi:i<ll.length
  ·rw[List.getElem?_append_left hi]at h;exact .inl ⟨hi,h⟩
  ·rw[List.getElem?_append_right (by omega)]at h
   have:i - ll.length=0:=by have:=(List.getElem?_eq_some_iff.1 h).1;simp at this;omega
   rw[this]at h;simp at h;exact .inr ⟨by omega,h.symm⟩
 have hvin:∀g,v4.ownBlock=some g→lo0≤g∧g<w4.heap.size∧g≠B:=fun g hg4=>by
  have hlt:=(World.ownsRow.lt hown g hg4).2
  rcases hfr g hg4 with e|e
  ·have:=R.vin g e;exact ⟨by omega,hlt,hB g this.1 this.2⟩
  ·exact ⟨by omega,hlt,by omega⟩
 have hrl:l.length≠0→r<w3.heap.size:=fun h0=>lt_of_block (hr h0);refine ⟨⟨?_,fun i x h h0=>?_,fun g hg4=>⟨(hvin g hg4).1,(hvin g hg4).2.1⟩,fun i x h h0=>?_,fun g i x hg4 h h0 e=>?_,fun i j x y h1 h2 h3 h4 e=>?_⟩,hall⟩
 ·rw[rwV_push,List.length_append];exact ownsRow_setCell_other hown (fun hx=>(hvin _ hx).2.2 rfl) _
 ·rcases hget h with ⟨hi,h⟩|⟨rfl,rfl⟩
  ·rw[if_neg (show ¬i=ll.length by omega)];have hb:=R.bin i x h h0;refine hall.heap (R.row i x h h0) fun e=>?_
   rcases e with e|e
   ·exact hB _ hb.1 hb.2 e
   ·exact R.vne _ i x e h h0 rfl
  ·simp only[if_true];have hr1:=hr0 h0;refine hM5.heap (hM4b.heap (hr h0) fun e=>?_) fun e=>hr1.2.1 e;have:=R.vin r e;omega
 ·rcases hget h with ⟨hi',h⟩|⟨rfl,rfl⟩
  ·rw[if_neg (show ¬i=ll.length by omega)];have hb:=R.bin i x h h0;exact ⟨by omega,by omega⟩
  ·simp only[if_true]
   have:=hr0 h0;have:=hrl h0
   exact ⟨by omega,by omega⟩
 ·rcases hget h with ⟨hi',h⟩|⟨rfl,rfl⟩
  ·rw[if_neg (show ¬i=ll.length by omega)]at e;have hb:=R.bin i x h h0
   rcases hfr g hg4 with e'|e'
   ·exact R.vne g i x e' h h0 e
   ·omega
  ·simp only[if_true]at e;subst e
   have:=hr0 h0;have:=hrl h0
   rcases hfr g hg4 with e'|e'
   ·have:=R.vin g e';omega
   ·omega
 ·rcases hget h1 with ⟨hi1,q1⟩|⟨rfl,rfl⟩ <;> rcases hget h2 with ⟨hi2,q2⟩|⟨rfl,rfl⟩
  ·rw[if_neg (show ¬i=ll.length by omega),if_neg (show ¬j=ll.length by omega)]at e;exact R.inj i j x y q1 q2 h3 h4 e
  ·simp only[if_true]at e;rw[if_neg (show ¬i=ll.length by omega)]at e
   have:=R.bin i x q1 h3;have:=hr0 h4;omega
  ·simp only[if_true]at e;rw[if_neg (show ¬j=ll.length by omega)]at e
   have:=R.bin j y q2 h4;have:=hr0 h3;omega
  ·rfl
theorem Rws.push(R:Rws lo hi w v ll bl)(hhi:hi≤w.heap.size)(hlo:lo≤w.heap.size)(hM:Mod noF w w3){l:List Int}{r:Nat}{B o:Nat}(hr0:l.length≠0→hi≤r∧lo≤r∧r≠B)(hr:l.length≠0→w3.heap[r]?=some (.cells (l.map (Value.int .i64)).toArray 3 (0,0)))
  (hown:w4.ownsRow 0 23 1 v4 (ll.length+1) (rwV ll bl++[rwU l r])) (hg:w3.grownBy w4 v.ownBlock) (hfr:∀g,v4.ownBlock=some g→v.ownBlock=some g∨w3.heap.size≤g)
  (hB:∀k,lo≤k→k<hi→k≠B) (hBs:B<w.heap.size) :
  Rws lo w4.heap.size (w4.setCell ⟨B,o,none⟩ v4) v4 (ll++[l]) (fun i=>if i=ll.length then r else bl i)∧Mod (fun k=>k=B∨v.ownBlock=some k) w (w4.setCell ⟨B,o,none⟩ v4):=
 R.push0 (Nat.le_refl lo) hhi hlo hM (fun h=>⟨(hr0 h).2.1,(hr0 h).2.2,.inl (hr0 h).1⟩) hr hown hg hfr hB hBs
end
section
open Go.RowKit Qs Qh
def z8:List Int:=[0,0,0,0,0,0,0,0]
theorem rowInfo:(Tryz.prog.info? 23).map (fun i=>(i.zero,i.size,i.bytes))=some (some (.slice none 0 0),1,24):=by kernel_rfl
def BaseAt(w:World)(B:Nat)(iv rv:Value):Prop:=w.heap[B]?=some (.cells #[.int .i64 64,iv,rv] 96 (0,0))
theorem one_row(u:Value)(h:u.oneCell'=true):∀x∈[u],x.oneCell'=true:=fun x hx=>by rw[List.mem_singleton]at hx;subst hx;exact h
theorem replicate_push(k:Nat)(x:List Int):List.replicate (k+1) x=List.replicate k x++[x]:=by rw[List.replicate_succ']
theorem BaseAt.next2{wr w3 w4:World}{B lo hi r:Nat}{iv rv v4:Value}{ll:List (List Int)}{l:List Int}{bl:Nat→Nat}(hB:BaseAt wr B iv rv)(R:Rws lo hi wr rv ll bl)(hhi:hi≤wr.heap.size)(hlo:lo≤wr.heap.size)(hBl:B<lo)(hM:Mod noF wr w3)
  (hr0:l.length≠0→hi≤r∧lo≤r) (hr:l.length≠0→w3.heap[r]?=some (.cells (l.map (Value.int .i64)).toArray 3 (0,0)))
  (hown:w4.ownsRow 0 23 1 v4 (ll.length+1) (rwV ll bl++[rwU l r])) (hg:w3.grownBy w4 rv.ownBlock) (hfr:∀g,v4.ownBlock=some g→rv.ownBlock=some g∨w3.heap.size≤g) :
  BaseAt (w4.setCell ⟨B,2,none⟩ v4) B iv v4∧(∃bl',Rws lo (w4.setCell ⟨B,2,none⟩ v4).heap.size (w4.setCell ⟨B,2,none⟩ v4) v4 (ll++[l]) bl')∧Mod (fun k=>k=B∨rv.ownBlock=some k) wr (w4.setCell ⟨B,2,none⟩ v4):=by
 have hBs:B<wr.heap.size:=lt_of_block hB;obtain ⟨R',hM'⟩:=R.push hhi hlo hM (fun h=>⟨(hr0 h).1,(hr0 h).2,by have:=(hr0 h).2;omega⟩) hr hown hg hfr (B:=B) (o:=2) (fun k h _=>by omega) hBs;have hM4:Mod (fun x=>rv.ownBlock=some x) wr w4:=hM.any.grown hg fun j hj _=>hj
 have hB4:w4.heap[B]?=_:=hM4.heap hB fun e=>by have:=(R.vin B e).1;omega
 have hs:(w4.setCell ⟨B,2,none⟩ v4).heap.size=w4.heap.size:=by simp[World.setCell]
 refine ⟨?_,⟨_,hs ▸ R'⟩,hM'⟩;unfold BaseAt;rw[Qh.heap_setCell_same hB4];rfl
theorem BaseAt.next10{lo0:Nat}{wr w3 w4:World}{B lo hi r:Nat}{iv rv v4:Value}{ll:List (List Int)}{l:List Int}{bl:Nat→Nat}(hB:BaseAt wr B iv rv)(R:Rws lo hi wr iv ll bl)(h00:lo0≤lo)(hhi:hi≤wr.heap.size)(hlo:lo≤wr.heap.size)(hBl:B<lo)(hM:Mod noF wr w3)
  (hr0:l.length≠0→lo0≤r∧r≠B∧(hi≤r∨r<lo)) (hr:l.length≠0→w3.heap[r]?=some (.cells (l.map (Value.int .i64)).toArray 3 (0,0)))
  (hown:w4.ownsRow 0 23 1 v4 (ll.length+1) (rwV ll bl++[rwU l r])) (hg:w3.grownBy w4 iv.ownBlock) (hfr:∀g,v4.ownBlock=some g→iv.ownBlock=some g∨w3.heap.size≤g) :
  BaseAt (w4.setCell ⟨B,1,none⟩ v4) B v4 rv∧(∃bl',Rws lo0 (w4.setCell ⟨B,1,none⟩ v4).heap.size (w4.setCell ⟨B,1,none⟩ v4) v4 (ll++[l]) bl')∧Mod (fun k=>k=B∨iv.ownBlock=some k) wr (w4.setCell ⟨B,1,none⟩ v4):=by
 have hBs:B<wr.heap.size:=lt_of_block hB;obtain ⟨R',hM'⟩:=R.push0 h00 hhi hlo hM hr0 hr hown hg hfr (B:=B) (o:=1) (fun k h _=>by omega) hBs;have hM4:Mod (fun x=>iv.ownBlock=some x) wr w4:=hM.any.grown hg fun j hj _=>hj
 have hB4:w4.heap[B]?=_:=hM4.heap hB fun e=>by have:=(R.vin B e).1;omega
 have hs:(w4.setCell ⟨B,1,none⟩ v4).heap.size=w4.heap.size:=by simp[World.setCell]
 refine ⟨?_,⟨_,hs ▸ R'⟩,hM'⟩;unfold BaseAt;rw[Qh.heap_setCell_same hB4];rfl
theorem newBase_ok(n:Nat)(hn:n≤6)(w:World):Calls Tryz.prog 43 #[.int .i64 n] w fun e w'=>∃rv rb,e=.returned (.pointer (some ⟨w.heap.size,0,none⟩))∧Mod noF w w'∧BaseAt w' w.heap.size (.slice none 0 0) rv∧Rws (w.heap.size+1) w'.heap.size w' rv (List.replicate n z8) rb:=by
 have hmk8:∀w:World,(Instr.makeSlice 23 (.int .i64 8) (.int .i64 8)).run Tryz.prog w=.ok (.slice (some ⟨w.heap.size,0,none⟩) 8 8) (w.alloc (.cells #[.int .i64 0,.int .i64 0,.int .i64 0,.int .i64 0,.int .i64 0,.int .i64 0,.int .i64 0,.int .i64 0] 3)):=fun _=>by kernel_rfl
 obtain ⟨i0,hti,hz0,hz1,hz2⟩:=info_parts rowInfo
 go_enter Tryz.func43,Tryz.ntmps43
 go_wp2
 go_loopw [8] (fun i wr=>∃k:Nat,k≤n∧i=.int .i64 k∧Mod noF w wr∧w.heap.size+1≤wr.heap.size∧∃rv rb,BaseAt wr w.heap.size (.slice none 0 0) rv∧Rws (w.heap.size+1) wr.heap.size wr rv (List.replicate k z8) rb) (fun i _=>n - (intOf i).toNat)
 case atStart=>exact ⟨0,Nat.zero_le _,rfl,(Mod.refl _ _).alloc _,by simp,.slice none 0 0,fun _=>0,by unfold BaseAt;exact heap_alloc_new _ _,Rws.nil _ _ _ _⟩
 case round=>
  rename_i wr
  obtain ⟨k,hk,rfl,hm,hsz,rv,rb,hB,R⟩:=hrel
  have b2:wr.cell? ⟨w.heap.size,2,none⟩=some rv:=by rw[cell_of_heap hB];rfl
  have bf:=free_of_heap hB 2;obtain ⟨va,vb,vc,rfl⟩:=slice_of_own R.own
  have hvb:¬(Value.slice va vb vc).ownBlock=some w.heap.size:=fun e=>by have:=(R.vin _ e).1;omega
  have b3:(wr.alloc (.cells #[.int .i64 0,.int .i64 0,.int .i64 0,.int .i64 0,.int .i64 0,.int .i64 0,.int .i64 0,.int .i64 0] 3)).cell? ⟨w.heap.size,2,none⟩=some (.slice va vb vc):=((Mod.refl noF wr).alloc _).cell b2 (fun e=>e)
  have b4:((wr.alloc (.cells #[.int .i64 0,.int .i64 0,.int .i64 0,.int .i64 0,.int .i64 0,.int .i64 0,.int .i64 0,.int .i64 0] 3)).alloc (.cells #[.slice (some ⟨wr.heap.size,0,none⟩) 8 8] 23)).cell? ⟨w.heap.size,2,none⟩=some (.slice va vb vc):=(((Mod.refl noF wr).alloc _).alloc _).cell b2 (fun e=>e)
  have Hm:=Lib.hid hm;have HB:=Lib.hid hB;have HR:=Lib.hid R;have Hvb:=Lib.hid hvb;clear hm hB R hvb
  by_cases hlt:k<n
  ·have hd:decide ((k:Int)<(n:Int))=true:=by simp;omega
   have hbnd:k+1≤maxLen:=by unfold maxLen;omega
   go_wp2
   go_region_law (refine step_append_mine _ rfl (.tmp 15) (.tmp 17) 30 rfl 23 i0 (.slice none 0 0) 1 24 Tryz.underlying30 hti hz0 hz1 hz2 rfl (by decide) _ k (rwV (List.replicate k z8) rb) rfl (by have:=HR.out.own;rw[List.length_replicate]at this;exact World.ownsRow.alloc (World.ownsRow.alloc this _) _) ⟨wr.heap.size+1,0,none⟩ 1 1 [.slice (some ⟨wr.heap.size,0,none⟩) 8 8] rfl rfl (by exact new_cells_at _ _ _ (by simp)) (one_row _ rfl) hbnd (by omega) ?_;intro v4 w7 hown hgr hfr _;obtain ⟨xa,xb,xc,rfl⟩:=slice_of_own hown;have Hown:=Lib.hid hown;have Hgr:=Lib.hid hgr;have Hfr:=Lib.hid hfr;have hm7:Mod (fun x=>(Value.slice va vb vc).ownBlock=some x) wr w7:=appended hgr (((Mod.refl noF wr).drew.alloc _).alloc _);have z2:=hm7.cell b2 Hvb.out;have zf:=(World.frozen?_of_block (hm7.block w.heap.size (by omega) Hvb.out)).trans bf;clear hown hgr hfr hm7)
   all_goals
    go_wp2
    go_roundw
    case rel=>
     obtain ⟨hB',⟨rb',R'⟩,hM'⟩:=HB.out.next2 HR.out (Nat.le_refl _) hsz (by omega) (((Mod.refl noF wr).alloc _).alloc _).drew (l:=z8) (r:=wr.heap.size) (fun _=>⟨Nat.le_refl _,hsz⟩) (fun _=>(((Mod.refl noF _).alloc _).drew.heap (heap_alloc_new wr _) (fun e=>e))) (by rw[List.length_replicate];exact Hown.out) Hgr.out Hfr.out
     rw[←replicate_push]at R'
     exact ⟨k+1,by omega,by go_num,Hm.out.trans hM' (fun x hx hf=>by
      rcases hf with e|e
      ·omega
      ·have:=(HR.out.vin x e).1;omega),by have:=hM'.size;omega,_,rb',hB',R'⟩
    case measure=>simp[intOf];omega
  ·have hd:decide ((k:Int)<(n:Int))=false:=by simp;omega
   obtain rfl:k=n:=by omega
   go_wp2;go_ret;exact ⟨_,_,rfl,Hm.out,HB.out,HR.out⟩
theorem word0_ok(i:Nat)(hi:i<64)(w:World):Calls Tryz.prog 72 #[.agg #[.int .i64 i,.int .i64 0]] w fun e w'=>e=.returned (.tuple #[.int .i64 ((i:Int)+1),.nilIface])∧Mod noF w w':=by
 have d0:decide ((i:Int)<0)=false:=by simp
 have d1:decide ((64:Int)≤(i:Int))=false:=by simp;omega
 have d2:decide ((4294967295:Int)<(i:Int)+1)=false:=by simp;omega
 go_enter Tryz.func72,Tryz.ntmps72
 go_wp2;go_ret2;exact ⟨rfl,(Mod.refl _ _).alloc _⟩
end
section
open Go.RowKit Qs Qh
variable {w w1 w2:World}{B lo hi r:Nat}{iv rv:Value}{ll:List (List Int)}{l:List Int}{bl:Nat→Nat}
theorem cell_ok0{lo0:Nat}(h00:lo0≤lo)(hB:BaseAt w B iv rv)(R:Rws lo hi w iv ll bl)(hhi:hi≤w.heap.size)(hlo:lo≤w.heap.size)(hBl:B<lo)(h64:ll.length<64)
  (hr0:l.length≠0→lo0≤r∧r≠B∧(hi≤r∨r<lo)) (hr:l.length≠0→w.heap[r]?=some (.cells (l.map (Value.int .i64)).toArray 3 (0,0))) :
  Calls Tryz.prog 45 #[.pointer (some ⟨B,0,none⟩),rwU l r] w fun e w'=>e=.returned (.int .i64 ((ll.length:Int)+1))∧∃iv',BaseAt w' B iv' rv∧(∃bl',Rws lo0 w'.heap.size w' iv' (ll++[l]) bl')∧Mod (fun k=>k=B∨iv.ownBlock=some k) w w':=by
 obtain ⟨i0,hti,hz0,hz1,hz2⟩:=info_parts rowInfo;obtain ⟨va,vb,vc,rfl⟩:=slice_of_own R.own
 have hvb:¬(Value.slice va vb vc).ownBlock=some B:=fun e=>by have:=(R.vin _ e).1;omega
 have hBs:B<w.heap.size:=lt_of_block hB
 have hlen:vb=ll.length:=by
  rcases R.own.2 with ⟨e,h0⟩|⟨g,cap,cur,e,_⟩
  ·cases e;exact h0.symm
  ·cases e;rfl
 subst hlen
 have c1:w.cell? ⟨B,1,none⟩=some (.slice va ll.length vc):=by rw[cell_of_heap hB];rfl
 have hcall:=word0_ok ll.length h64 w;have HB:=Lib.hid hB;have HR:=Lib.hid R;have Hvb:=Lib.hid hvb;have Hr:=Lib.hid hr;have Hr0:=Lib.hid hr0;have Hcall:=Lib.hid hcall
 have hbnd:ll.length+1≤maxLen:=by unfold maxLen;omega
 have hone:(rwU l r).oneCell'=true:=by unfold rwU;split <;> rfl
 obtain ⟨ua,ub,uc,hu⟩:∃ua ub uc,Value.slice ua ub uc=rwU l r:=by unfold rwU;split <;> exact ⟨_,_,_,rfl⟩
 rw[←hu]at hone ⊢;have Hu:=Lib.hid hu;clear hB R hvb hr hr0 hcall hu
 go_enter Tryz.func45,Tryz.ntmps45
 go_wp2_with fail
 refine Hcall.out.mono ?_;rintro e w1 ⟨rfl,hm1⟩;have d1:=hm1.cell c1 (fun e=>e);have df:=(World.frozen?_of_block (hm1.block B hBs (fun e=>e))).trans (free_of_heap HB.out 1);have hs1:=hm1.size;have Hm1:=Lib.hid hm1;clear hm1 Hcall c1
 go_wp2_with (at_builtin;refine wpList_append_mine _ rfl (.tmp 23) (.tmp 25) 30 rfl 23 i0 (.slice none 0 0) 1 24 Tryz.underlying30 hti hz0 hz1 hz2 rfl (by decide) _ ll.length (rwV ll bl) rfl (by exact World.ownsRow.alloc (owns_keep HR.out.own Hm1.out) _) ⟨w1.heap.size,0,none⟩ 1 1 [.slice ua ub uc] rfl rfl (by exact new_cells_at _ _ _ (by simp)) (one_row _ hone) hbnd (by omega) ?_;intro v4 w7 hown hgr hfr _;obtain ⟨xa,xb,xc,rfl⟩:=slice_of_own hown;have Hown:=Lib.hid hown;have hgr2:(w1.alloc (.cells #[.slice ua ub uc] 23)).grownBy w7 (Value.slice va ll.length vc).ownBlock:=hgr;have hfr2:∀g,(Value.slice xa xb xc).ownBlock=some g→(Value.slice va ll.length vc).ownBlock=some g∨(w1.alloc (.cells #[.slice ua ub uc] 23)).heap.size≤g:=hfr;have Hgr:=Lib.hid hgr2;have Hfr:=Lib.hid hfr2;have hm7:Mod (fun x=>(Value.slice va ll.length vc).ownBlock=some x) w1 w7:=appended hgr ((Mod.refl noF w1).alloc _);have z2:=hm7.cell d1 Hvb.out;have zf:=(World.frozen?_of_block (hm7.block B (by omega) Hvb.out)).trans df;clear hown hgr hgr2 hfr2 hfr hm7)
 have hn:=Hown.out;rw[Hu.out]at hn;obtain ⟨hB',⟨bl',R'⟩,hM'⟩:=HB.out.next10 (w3:=w1.alloc (.cells #[.slice ua ub uc] 23)) (w4:=w7) (v4:=.slice xa xb xc) (l:=l) (r:=r) HR.out h00 hhi hlo hBl (Hm1.out.alloc _) Hr0.out (fun h=>(Hm1.out.alloc _).heap (Hr.out h) (fun e=>e)) hn Hgr.out Hfr.out
 go_ret;exact ⟨rfl,_,hB',⟨_,R'⟩,hM'⟩
theorem cell_ok(hB:BaseAt w B iv rv)(R:Rws lo hi w iv ll bl)(hhi:hi≤w.heap.size)(hlo:lo≤w.heap.size)(hBl:B<lo)(h64:ll.length<64)
  (hr0:l.length≠0→hi≤r∧lo≤r) (hr:l.length≠0→w.heap[r]?=some (.cells (l.map (Value.int .i64)).toArray 3 (0,0))) :
  Calls Tryz.prog 45 #[.pointer (some ⟨B,0,none⟩),rwU l r] w fun e w'=>e=.returned (.int .i64 ((ll.length:Int)+1))∧∃iv',BaseAt w' B iv' rv∧(∃bl',Rws lo w'.heap.size w' iv' (ll++[l]) bl')∧Mod (fun k=>k=B∨iv.ownBlock=some k) w w':=
 cell_ok0 (Nat.le_refl lo) hB R hhi hlo hBl h64 (fun h=>⟨(hr0 h).2,by have:=(hr0 h).2;omega,.inl (hr0 h).1⟩) hr
end
section
open Go.RowKit Qs Qh
def IOwn(w:World)(x:Value)(l:List Int):Prop:=w.ownsRow 0 3 1 x l.length (l.map (Value.int .i64))
variable {w w1:World}{x:Value}{z:List Int}
theorem IOwn.nil(w:World):IOwn w (.slice none 0 0) []:=World.ownsRow_nil w 0 _ 1
theorem IOwn.lt(h:IOwn w x z){g:Nat}(hg:x.ownBlock=some g):g<w.heap.size:=(World.ownsRow.lt h g hg).2
theorem IOwn.keep(h:IOwn w x z){F:Nat→Prop}(hM:Mod F w w1)(hF:∀g,x.ownBlock=some g→¬F g):IOwn w1 x z:=by
 refine ⟨h.1,?_⟩
 rcases h.2 with e|⟨g,cap,cur,rfl,h0,hg,r⟩
 ·exact .inl e
 ·exact .inr ⟨g,cap,cur,rfl,h0,hM.heap hg (hF g rfl),r⟩
theorem IOwn.ints(h:IOwn w x z):IntsAt w x z:=by
 rcases h.2 with ⟨rfl,h0⟩|⟨g,cap,cur,rfl,_,hg,h1,h2,h3,h4⟩
 ·exact ⟨none,0,by rw[h0],by omega,fun i y hi=>by have:=(List.getElem?_eq_some_iff.1 hi).1;omega⟩
 ·refine ⟨_,cap,rfl,Nat.le_trans h1 h2,fun i y hi=>⟨g,0,rfl,lt_of_block hg,?_⟩⟩;have hlt:=(List.getElem?_eq_some_iff.1 hi).1;rw[cell_of_heap hg,Nat.zero_add]
  have e:cur[i]?=(cur.toList.take (z.length*1))[i]?:=by
   rw[List.getElem?_take,if_pos (by omega)];simp
  rw[e,h4,List.getElem?_map,hi];rfl
theorem IOwn.snoc{y:Int}(h:w.ownsRow 0 3 1 x (z.length+1) (z.map (Value.int .i64)++[.int .i64 y])):IOwn w x (z++[y]):=by
 unfold IOwn;rw[List.length_append,List.map_append];exact h
theorem int_one(y:Int):∀u∈[Value.int .i64 y],u.oneCell'=true:=one_row _ rfl
theorem intInfo4:(Tryz.prog.info? 3).map (fun i=>(i.zero,i.size,i.bytes))=some (some (.int .i64 0),1,8):=by kernel_rfl
end
section
open Go.RowKit Qs Qh
abbrev ROp:=ByteArray × Int
def RRow(N:Nat)(w:World)(u:Value)(l:List ROp):Prop:=
 ∃a c,u=.slice a l.length c∧∀(i:Nat) x,l[i]?=some x→∃b off,a=some ⟨b,off,none⟩∧b<N∧w.cell? ⟨b,off+i*2,none⟩=some (.string x.1)∧w.cell? ⟨b,off+i*2+1,none⟩=some (.int .i64 x.2)
def RIn(N:Nat)(w:World)(v:Value)(ll:List (List ROp)):Prop:=
 ∃a c,v=.slice a ll.length c∧∀(i:Nat) l,ll[i]?=some l→∃b off u,a=some ⟨b,off,none⟩∧b<N∧w.cell? ⟨b,off+i,none⟩=some u∧RRow N w u l
variable {N:Nat}{w w':World}{v u:Value}{ll:List (List ROp)}{l:List ROp}
theorem RRow.keep(h:RRow N w u l){F:Nat→Prop}(hM:Mod F w w')(hF:∀b,b<N→¬F b):RRow N w' u l:=by
 obtain ⟨a,c,e,hx⟩:=h;refine ⟨a,c,e,fun i x hi=>?_⟩;obtain ⟨b,off,e1,hb,h0,h1⟩:=hx i x hi;exact ⟨b,off,e1,hb,hM.cell h0 (hF b hb),hM.cell h1 (hF b hb)⟩
theorem RIn.keep(h:RIn N w v ll){F:Nat→Prop}(hM:Mod F w w')(hF:∀b,b<N→¬F b):RIn N w' v ll:=by
 obtain ⟨a,c,e,hx⟩:=h;refine ⟨a,c,e,fun i x hi=>?_⟩;obtain ⟨b,off,u,e1,hb,h0,h1⟩:=hx i x hi;exact ⟨b,off,u,e1,hb,hM.cell h0 (hF b hb),h1.keep hM hF⟩
def rowLong(l:List ROp):Bool:=decide (30<l.length)||l.any fun x=>decide (100<x.1.size)
def longB(ll:List (List ROp)):Bool:=decide (10<ll.length)||ll.any rowLong
theorem rowLong_false{l:List ROp}(h:rowLong l=false):l.length≤30:=by
 unfold rowLong at h;simp only[Bool.or_eq_false_iff,decide_eq_false_iff_not]at h;omega
theorem any_at{α : Type}{f : α→Bool}{l:List α}{i:Nat}{x : α}(h:l[i]?=some x)(hf:f x=true):l.any f=true:=
 List.any_eq_true.2 ⟨x,List.mem_of_getElem? h,hf⟩
theorem any_none{α : Type}{f : α→Bool}{l:List α}(h:∀(i:Nat) x,l[i]?=some x→f x=false):l.any f=false:=by
 rw[List.any_eq_false];intro x hx;obtain ⟨i,hi⟩:=List.getElem?_of_mem hx;rw[h i x hi];simp
theorem long_any(H:RIn N w v ll)(hlen:ll.length≤maxLen)(hrow:∀l∈ll,l.length≤maxLen):Calls Tryz.prog 9 #[v] w fun e w'=>e=.returned (.bool (longB ll))∧w'=w:=by
 obtain ⟨a,c,rfl,hx⟩:=H;have Hx:=Lib.hid hx;have Hrow:=Lib.hid hrow;clear hx hrow
 by_cases h10:10<ll.length
 ·have hd:decide ((10:Int)<(ll.length:Int))=true:=by simp;omega
  have hlb:longB ll=true:=by unfold longB;simp[h10]
  rw[hlb]
  go_enter Tryz.func9,Tryz.ntmps9
  go_wp2;go_ret;exact ⟨rfl,rfl⟩
 have hd:decide ((10:Int)<(ll.length:Int))=false:=by simp;omega
 have hlb:longB ll=ll.any rowLong:=by unfold longB;simp[h10]
 rw[hlb];have Hlb:=Lib.hid hlb;clear hlb;generalize hres:ll.any rowLong=res at *;have Hres:=Lib.hid hres;clear hres
 go_enter Tryz.func9,Tryz.ntmps9
 go_wp2
 go_loop [3] (fun i=>∃k:Nat,k≤ll.length∧i=.int .i64 k∧∀(j:Nat) l,j<k→ll[j]?=some l→rowLong l=false) (fun i=>ll.length - (intOf i).toNat)
 case atStart=>exact ⟨0,Nat.zero_le _,rfl,fun j l h=>by omega⟩
 case round=>
  obtain ⟨k,hk,rfl,hall⟩:=hrel;have Hall:=Lib.hid hall;clear hall
  by_cases hlt:k<ll.length
  ·have hd2:decide ((k:Int)<(ll.length:Int))=true:=by simp;omega
   have hki:(k:Int)<(ll.length:Int):=by omega
   obtain ⟨l,hl⟩:∃l,ll[k]?=some l:=⟨_,List.getElem?_eq_getElem hlt⟩;obtain ⟨b,off,u,rfl,hb,hc,⟨ua,uc,rfl,hxx⟩⟩:=Hx.out k l hl;have Hl:=Lib.hid hl;have Hxx:=Lib.hid hxx;have hml:=Hrow.out l (List.mem_of_getElem? hl);clear hl hxx
   by_cases h30:30<l.length
   ·have hd3:decide ((30:Int)<(l.length:Int))=true:=by simp;omega
    have hr:rowLong l=true:=by unfold rowLong;simp[h30]
    have hres:res=true:=by rw[←Hres.out];exact any_at Hl.out hr
    subst hres;clear hr;go_wp2;go_ret;exact ⟨rfl,rfl⟩
   have hd3:decide ((30:Int)<(l.length:Int))=false:=by simp;omega
   go_wp2
   go_loop [4] (fun i=>∃q:Nat,q≤l.length∧i=.int .i64 q∧∀(j:Nat) x,j<q→l[j]?=some x→decide (100<x.1.size)=false) (fun i=>l.length - (intOf i).toNat)
   case atStart=>exact ⟨0,Nat.zero_le _,rfl,fun j l h=>by omega⟩
   case round=>
    obtain ⟨q,hq,rfl,hall⟩:=hrel;have Hall2:=Lib.hid hall;clear hall
    by_cases hltq:q<l.length
    ·have hd4:decide ((q:Int)<(l.length:Int))=true:=by simp;omega
     have hqi:(q:Int)<(l.length:Int):=by omega
     obtain ⟨x,hxl⟩:∃x,l[q]?=some x:=⟨_,List.getElem?_eq_getElem hltq⟩;obtain ⟨ub,uoff,rfl,hub,h0,-⟩:=Hxx.out q x hxl;have Hxl:=Lib.hid hxl;clear hxl
     by_cases h100:100<x.1.size
     ·have hd5:decide ((100:Int)<(x.1.size:Int))=true:=by simp;omega
      have hr:rowLong l=true:=by
       unfold rowLong;rw[any_at (f:=fun x:ROp=>decide (100<x.1.size)) Hxl.out (by simpa using h100)];simp
      have hres:res=true:=by rw[←Hres.out];exact any_at Hl.out hr
      subst hres;clear hr;go_wp2;go_ret;exact ⟨rfl,rfl⟩
     ·have hd5:decide ((100:Int)<(x.1.size:Int))=false:=by simp;omega
      go_wp2
      go_round
      case rel=>
       refine ⟨q+1,by omega,by go_num,fun j y hj hy=>?_⟩
       by_cases e:j=q
       ·subst e;rw[Hxl.out]at hy;cases hy
        simpa using h100
       ·exact Hall2.out j y (by omega) hy
      case measure=>simp[intOf];omega
    ·have hd4:decide ((q:Int)<(l.length:Int))=false:=by simp;omega
     have hr:rowLong l=false:=by
      unfold rowLong;rw[any_none (fun i x hi=>Hall2.out i x (by have:=(List.getElem?_eq_some_iff.1 hi).1;omega) hi)];simp;omega
     have Hr:=Lib.hid hr;clear hr;go_wp2
     go_round
     case rel=>
      refine ⟨k+1,by omega,by go_num,fun j y hj hy=>?_⟩
      by_cases e:j=k
      ·subst e;rw[Hl.out]at hy;cases hy;exact Hr.out
      ·exact Hall.out j y (by omega) hy
     case measure=>simp[intOf];omega
  ·have hd2:decide ((k:Int)<(ll.length:Int))=false:=by simp;omega
   have hres:res=false:=by
    rw[←Hres.out];exact any_none fun i l hi=>Hall.out i l (by have:=(List.getElem?_eq_some_iff.1 hi).1;omega) hi
   subst hres;go_wp2;go_ret;exact ⟨rfl,rfl⟩
end
section
open Go.RowKit Qs Qh
variable {N:Nat}{w w':World}{v u:Value}{ll:List (List ROp)}{l:List ROp}
def manyB(ll:List (List ROp)):Bool:=decide (1≤ll.length)&&decide (ll.length≤6)&&ll.all fun l=>decide (l.length≤20)
theorem many_any(H:RIn N w v ll)(hlen:ll.length≤10)(hrow:∀l∈ll,l.length≤30):Calls Tryz.prog 40 #[v] w fun e w'=>e=.returned (.bool (manyB ll))∧w'=w:=by
 obtain ⟨a,c,rfl,hx⟩:=H;have Hx:=Lib.hid hx;have Hrow:=Lib.hid hrow;clear hx hrow
 by_cases h1:ll.length<1
 ·have hd:decide ((ll.length:Int)<1)=true:=by simp;omega
  have hb:manyB ll=false:=by unfold manyB;simp;omega
  rw[hb]
  go_enter Tryz.func40,Tryz.ntmps40
  go_wp2;go_ret;exact ⟨rfl,rfl⟩
 have hd1:decide ((ll.length:Int)<1)=false:=by simp;omega
 by_cases h6:6<ll.length
 ·have hd:decide ((6:Int)<(ll.length:Int))=true:=by simp;omega
  have hb:manyB ll=false:=by unfold manyB;simp;omega
  rw[hb]
  go_enter Tryz.func40,Tryz.ntmps40
  go_wp2;go_ret;exact ⟨rfl,rfl⟩
 have hd2:decide ((6:Int)<(ll.length:Int))=false:=by simp;omega
 have hb:manyB ll=ll.all fun l=>decide (l.length≤20):=by
  unfold manyB;rw[decide_eq_true (show 1≤ll.length by omega),decide_eq_true (show ll.length≤6 by omega)];rfl
 rw[hb];clear hb;generalize hres:(ll.all fun l=>decide (l.length≤20))=res at *;have Hres:=Lib.hid hres;clear hres
 go_enter Tryz.func40,Tryz.ntmps40
 go_wp2
 go_loop [3] (fun i=>∃k:Nat,k≤ll.length∧i=.int .i64 k∧∀(j:Nat) l,j<k→ll[j]?=some l→l.length≤20) (fun i=>ll.length - (intOf i).toNat)
 case atStart=>exact ⟨0,Nat.zero_le _,rfl,fun j l h=>by omega⟩
 case round=>
  obtain ⟨k,hk,rfl,hall⟩:=hrel;have Hall:=Lib.hid hall;clear hall
  by_cases hlt:k<ll.length
  ·have hd3:decide ((k:Int)<(ll.length:Int))=true:=by simp;omega
   have hki:(k:Int)<(ll.length:Int):=by omega
   obtain ⟨l,hl⟩:∃l,ll[k]?=some l:=⟨_,List.getElem?_eq_getElem hlt⟩;obtain ⟨b,off,u,rfl,hb,hc,⟨ua,uc,rfl,-⟩⟩:=Hx.out k l hl;have Hl:=Lib.hid hl;clear hl
   by_cases h20:20<l.length
   ·have hd4:decide ((20:Int)<(l.length:Int))=true:=by simp;omega
    have hres:res=false:=by
     rw[←Hres.out];rw[List.all_eq_false];exact ⟨l,List.mem_of_getElem? Hl.out,by simp;omega⟩
    subst hres;go_wp2;go_ret;exact ⟨rfl,rfl⟩
   ·have hd4:decide ((20:Int)<(l.length:Int))=false:=by simp;omega
    go_wp2
    go_round
    case rel=>
     refine ⟨k+1,by omega,by go_num,fun j y hj hy=>?_⟩
     by_cases e:j=k
     ·subst e;rw[Hl.out]at hy;cases hy;omega
     ·exact Hall.out j y (by omega) hy
    case measure=>simp[intOf];omega
  ·have hd3:decide ((k:Int)<(ll.length:Int))=false:=by simp;omega
   have hres:res=true:=by
    rw[←Hres.out,List.all_eq_true];intro l hl;obtain ⟨i,hi⟩:=List.getElem?_of_mem hl;have:=Hall.out i l (by have:=(List.getElem?_eq_some_iff.1 hi).1;omega) hi
    simpa using this
   subst hres;go_wp2;go_ret;exact ⟨rfl,rfl⟩
theorem bare_ok(c:Int)(w:World):Calls Tryz.prog 31 #[.int .i64 c] w fun e w'=>e=.returned (.agg #[.int .i64 c,.int .i64 (-1)])∧Mod noF w w':=by
 go_enter Tryz.func31,Tryz.ntmps31
 go_wp2;exact bodyPost_ret (v:=.agg #[.int .i64 c,.int .i64 (-1)]) (by simp[results,Tryz.results31,go_sem]) rfl ⟨rfl,(Mod.refl _ _).alloc _⟩
theorem fine_ok(w:World):Calls Tryz.prog 41 #[] w fun e w'=>e=.returned (.agg #[.int .i64 0,.int .i64 (-1)])∧Mod noF w w':=by
 go_enter Tryz.func41,Tryz.ntmps41
 go_wp2;exact bodyPost_ret (v:=.agg #[.int .i64 0,.int .i64 (-1)]) (by simp[results,Tryz.results41,go_sem]) rfl ⟨rfl,(Mod.refl _ _).alloc _⟩
end
section
open Go.RowKit Qs Qh
variable {K:Nat→Bool}{w:World}{L:Lay}{m:M}{N:Int}
def Fenced(K:Nat→Bool)(w:World)(L:Lay)(m:M)(t:Nat)(l:List Wt)(k:Nat)(n:Value)(wr:World):Prop:=
 ∃pre r Lq,l=pre++r∧r.length=k∧n=.int .i64 ((drainAll m.cells pre).2:Nat)∧Up ty K w L m wr Lq {m with cells:=(drainAll m.cells pre).1,waits:=m.waits.set t r}
theorem memFence_any(R:Rep ty K w L m)(h1:K 1=true)(h2:K 2=true)(h3:K 3=true)(h6:K 6=true)(h7:K 7=true)(om:OkM N m)(ol:OkL L m)(hN:N≤1000000000000)(t:Nat){l:List Wt}(hl:m.waits[t]?=some l) :
  Calls Tryz.prog 120 #[.pointer (some ⟨L.blk 1 0,0,none⟩),.int .i64 t] w fun e w'=>
   e=.returned (.int .i64 ((drainAll m.cells l).2:Nat))∧∃L',Up ty K w L m w' L' {m with cells:=(drainAll m.cells l).1,waits:=m.waits.set t []}:=by
 have ht:t<m.waits.length:=(List.getElem?_eq_some_iff.1 hl).1;have hwl:=om.waits;have hl8:=om.wlen t l hl;have Hl:=Lib.hid hl;have HR:=Lib.hid R;have Hom:=Lib.hid om;have Hol:=Lib.hid ol;clear hl R om ol
 go_enter Tryz.func120,Tryz.ntmps120
 go_wp2
 go_loopg [5] l.length (fun k n wr=>Fenced K w L m t l k n wr)
 case atStart=>
  refine ⟨[],l,L,rfl,rfl,rfl,?_⟩;rw[set_back Hl.out];exact Up.refl HR.out Hol.out
 case round=>
  obtain ⟨pre,r,Lq,hlq,hrk,rfl,hU⟩:=hrel
  have hwq:(m.waits.set t r)[t]?=some r:=by simp[ht]
  have e1:Lq.blk 1 0=L.blk 1 0:=(hU.ext.same 1 0 (by omega) (by omega)).1;have hval:=Hom.out.wval t l Hl.out
  have omq:OkM N {m with cells:=(drainAll m.cells pre).1,waits:=m.waits.set t r}:=by
   have o1:=drainAll_ok pre Hom.out (fun x hx=>(hval x (by rw[hlq];simp[hx])).1);exact o1.setWaits (by rw[hlq]at hl8;simp at hl8;omega) (fun x hx=>by simpa[drainAll_length]using hval x (by rw[hlq];simp[hx]))
  have c0:=hU.rep.waits_at h1 hU.ok;have c1:=waits_row hU.rep h3 hU.ok (t:=t) hwq;have hsp3:=hU.ok.sp3;rw[e1]at c0;simp only[List.length_set]at c0 hsp3;have hcount:=drainAll_le pre m.cells
  have hpl:pre.length≤8:=by rw[hlq]at hl8;simp at hl8;omega
  generalize hnf:(drainAll m.cells pre).2=nf at *
  have hnf8:nf≤8:=by omega
  have Hnf:=Lib.hid hnf;have HU:=Lib.hid hU;have Homq:=Lib.hid omq;have Hlq:=Lib.hid hlq;have E1:=Lib.hid e1;have Hwq:=Lib.hid hwq;have Hrk:=Lib.hid hrk;clear hnf hU omq hlq e1 hwq hval hrk hcount hpl
  cases r with
  |nil=>
   have hrow:∃sa sc,Lq.row 7 t 0=.slice sa 0 sc:=by
    unfold Lay.row
    cases h:Lq.nil 7 t with
    |true=>exact ⟨none,0,rfl⟩
    |false=>exact ⟨_,_,rfl⟩
   obtain ⟨sa,sc,hrow⟩:=hrow;rw[List.length_nil,hrow]at c1;clear hrow;go_wp2;go_ret
   have hlp:l=pre:=by have:=Hlq.out;simpa using this
   refine ⟨ret_int (by rw[hlp,Hnf.out]),Lq,?_⟩;rw[hlp];exact HU.out
  |cons x r=>
   have hn:Lq.nil 7 t=false:=by
    cases h:Lq.nil 7 t with
    |false=>rfl
    |true=>have:=HU.out.ok.n7 t _ Hwq.out h;cases this
   rw[row_some hn]at c1;simp only[List.length_cons]at c1;have hcall:=drain_some HU.out.rep h1 h2 h3 h6 h7 Homq.out HU.out.ok hN t Hwq.out;rw[E1.out]at hcall;have Hcall:=Lib.hid hcall
   have hde:drainE (drainAll m.cells pre).1 x=0∨drainE (drainAll m.cells pre).1 x=7:=by unfold drainE;split <;> simp
   clear hn hcall
   rcases hde with hde|hde
   ·have hb:(drain1 (drainAll m.cells pre).1 x).2=false:=by
     rw[drain1_bad];unfold drainE at hde
     cases h:hereIn (drainAll m.cells pre).1 x.c x.g with
     |true=>rfl
     |false=>rw[h]at hde;simp at hde
    have Hb:=Lib.hid hb;have Hde:=Lib.hid hde;clear hde hb
    go_wp2_with (go_at_call 104;refine Hcall.out.mono ?_;rintro e w5 ⟨rfl,L5,hU5⟩;rw[show drainE _ x=_ from Hde.out])
    go_roundg r.length
    case measure=>have:=Hrk.out;simp at this;omega
    case rel=>
     refine ⟨pre++[x],r,L5,by rw[Hlq.out];simp,rfl,?_,?_⟩
     ·rw[drainAll_snoc,Hb.out,Hnf.out];rfl
     ·rw[drainAll_snoc];have:=HU.out.trans hU5;simp only[List.set_set]at this;exact this
   ·have hb:(drain1 (drainAll m.cells pre).1 x).2=true:=by
     rw[drain1_bad];unfold drainE at hde
     cases h:hereIn (drainAll m.cells pre).1 x.c x.g with
     |true=>rw[h]at hde;simp at hde
     |false=>rfl
    have Hb:=Lib.hid hb;have Hde:=Lib.hid hde;clear hde hb
    go_wp2_with (go_at_call 104;refine Hcall.out.mono ?_;rintro e w5 ⟨rfl,L5,hU5⟩;rw[show drainE _ x=_ from Hde.out])
    go_roundg r.length
    case measure=>have:=Hrk.out;simp at this;omega
    case rel=>
     refine ⟨pre++[x],r,L5,by rw[Hlq.out];simp,rfl,?_,?_⟩
     ·rw[drainAll_snoc,Hb.out,Hnf.out];simp
     ·rw[drainAll_snoc];have:=HU.out.trans hU5;simp only[List.set_set]at this;exact this
end
section
open Go.RowKit Qs Qh
variable {w0 w w1:World}{b o:Nat}{v0:Value}{l:List Instr}{br s:ByteArray}{fe jo co:Bool}{u:Value}{c:Nat}
def gc10:List Instr:=[⟨6,0,6,0,[]⟩,⟨0,1,255,0,[]⟩,⟨4,1,0,1,[]⟩,⟨14,1,0,0,[46,97]⟩,⟨0,1,1,0,[]⟩,⟨2,0,0,1,[]⟩,⟨7,6,0,0,[]⟩,⟨16,0,0,0,[46,98]⟩,⟨17,0,0,0,[46,97]⟩,⟨6,0,7,0,[]⟩,⟨7,6,0,0,[]⟩,⟨12,0,0,0,[]⟩,⟨17,0,0,0,[46,98]⟩]
def gc11:List Instr:=[⟨12,0,0,0,[]⟩,⟨6,0,6,0,[]⟩,⟨0,1,1,0,[]⟩,⟨3,0,0,1,[]⟩,⟨7,6,0,0,[]⟩]
def gc12:List Instr:=[]
def gc13:List Instr:=[]
def gc14:List Instr:=[⟨12,0,0,0,[]⟩,⟨17,0,0,0,[116,46,97]⟩,⟨0,0,0,0,[]⟩,⟨0,1,1,0,[]⟩,⟨9,7,0,1,[]⟩,⟨14,0,0,0,[116,46,98]⟩,⟨16,0,0,0,[116,46,97]⟩,⟨17,0,0,0,[116,46,98]⟩,⟨6,0,7,0,[]⟩,⟨0,1,256,0,[]⟩,⟨5,0,0,1,[]⟩,⟨7,7,0,0,[]⟩,⟨12,0,0,0,[]⟩,⟨6,2,7,2,[]⟩,⟨17,0,0,0,[46,120,108]⟩,⟨14,2,0,0,[46,120,111]⟩,⟨17,0,0,0,[46,120,115]⟩,⟨6,0,2,0,[]⟩,⟨0,1,255,0,[]⟩,⟨4,1,0,1,[]⟩,⟨14,1,0,0,[46,120,110]⟩,⟨6,1,7,0,[]⟩,⟨5,1,0,1,[]⟩,⟨0,0,256,0,[]⟩,⟨4,1,1,0,[]⟩,⟨14,1,0,0,[46,120,110]⟩,⟨16,0,0,0,[46,120,115]⟩,⟨17,0,0,0,[46,120,110]⟩,⟨6,2,2,1,[]⟩,⟨16,0,0,0,[46,120,108]⟩,⟨17,0,0,0,[46,120,111]⟩,⟨6,0,7,0,[]⟩,⟨0,1,256,0,[]⟩,⟨5,0,0,1,[]⟩,⟨7,7,0,0,[]⟩,⟨12,0,0,0,[]⟩,⟨6,2,7,2,[]⟩,⟨17,0,0,0,[46,121,108]⟩,⟨14,2,0,0,[46,121,111]⟩,⟨17,0,0,0,[46,121,115]⟩,⟨6,0,2,0,[]⟩,⟨0,1,255,0,[]⟩,⟨4,1,0,1,[]⟩,⟨14,1,0,0,[46,121,110]⟩,⟨6,1,7,0,[]⟩,⟨5,1,0,1,[]⟩,⟨0,0,256,0,[]⟩,⟨4,1,1,0,[]⟩,⟨14,1,0,0,[46,121,110]⟩,⟨16,0,0,0,[46,121,115]⟩,⟨17,0,0,0,[46,121,110]⟩,⟨6,2,2,1,[]⟩,⟨16,0,0,0,[46,121,108]⟩,⟨17,0,0,0,[46,121,111]⟩,⟨12,0,0,0,[]⟩,⟨0,0,0,0,[]⟩,⟨7,7,0,1,[]⟩,⟨12,0,0,0,[]⟩]
def gc20:List Instr:=[⟨6,0,6,0,[]⟩,⟨0,1,255,0,[]⟩,⟨4,1,0,1,[]⟩,⟨14,1,0,0,[46,97]⟩,⟨0,1,1,0,[]⟩,⟨2,0,0,1,[]⟩,⟨7,6,0,0,[]⟩,⟨16,0,0,0,[46,98]⟩,⟨17,0,0,0,[46,97]⟩,⟨6,0,7,0,[]⟩,⟨7,6,0,0,[]⟩,⟨17,0,0,0,[46,98]⟩]
def gc21:List Instr:=[⟨6,0,6,0,[]⟩,⟨0,1,1,0,[]⟩,⟨3,0,0,1,[]⟩,⟨7,6,0,0,[]⟩]
def gc22:List Instr:=[]
def gc23:List Instr:=[]
def gc24:List Instr:=[⟨13,0,0,0,[]⟩,⟨17,0,0,0,[116,46,97]⟩,⟨0,0,0,0,[]⟩,⟨0,1,1,0,[]⟩,⟨9,7,0,1,[]⟩,⟨14,0,0,0,[116,46,98]⟩,⟨16,0,0,0,[116,46,97]⟩,⟨17,0,0,0,[116,46,98]⟩,⟨6,0,7,0,[]⟩,⟨0,1,256,0,[]⟩,⟨5,0,0,1,[]⟩,⟨7,7,0,0,[]⟩,⟨13,0,0,0,[]⟩,⟨6,2,7,2,[]⟩,⟨17,0,0,0,[46,120,108]⟩,⟨14,2,0,0,[46,120,111]⟩,⟨17,0,0,0,[46,120,115]⟩,⟨6,0,2,0,[]⟩,⟨0,1,255,0,[]⟩,⟨4,1,0,1,[]⟩,⟨14,1,0,0,[46,120,110]⟩,⟨6,1,7,0,[]⟩,⟨5,1,0,1,[]⟩,⟨0,0,256,0,[]⟩,⟨4,1,1,0,[]⟩,⟨14,1,0,0,[46,120,110]⟩,⟨16,0,0,0,[46,120,115]⟩,⟨17,0,0,0,[46,120,110]⟩,⟨6,2,2,1,[]⟩,⟨16,0,0,0,[46,120,108]⟩,⟨17,0,0,0,[46,120,111]⟩,⟨6,0,7,0,[]⟩,⟨0,1,256,0,[]⟩,⟨5,0,0,1,[]⟩,⟨7,7,0,0,[]⟩,⟨13,0,0,0,[]⟩,⟨6,2,7,2,[]⟩,⟨17,0,0,0,[46,121,108]⟩,⟨14,2,0,0,[46,121,111]⟩,⟨17,0,0,0,[46,121,115]⟩,⟨6,0,2,0,[]⟩,⟨0,1,255,0,[]⟩,⟨4,1,0,1,[]⟩,⟨14,1,0,0,[46,121,110]⟩,⟨6,1,7,0,[]⟩,⟨5,1,0,1,[]⟩,⟨0,0,256,0,[]⟩,⟨4,1,1,0,[]⟩,⟨14,1,0,0,[46,121,110]⟩,⟨16,0,0,0,[46,121,115]⟩,⟨17,0,0,0,[46,121,110]⟩,⟨6,2,2,1,[]⟩,⟨16,0,0,0,[46,121,108]⟩,⟨17,0,0,0,[46,121,111]⟩,⟨13,0,0,0,[]⟩,⟨0,0,0,0,[]⟩,⟨7,7,0,1,[]⟩,⟨12,0,0,0,[]⟩]
def gc30:List Instr:=[]
def gc31:List Instr:=[]
def gc32:List Instr:=[⟨6,0,7,0,[]⟩,⟨7,6,0,0,[]⟩,⟨12,0,0,0,[]⟩]
def gc33:List Instr:=[⟨0,0,0,0,[]⟩,⟨7,6,0,0,[]⟩,⟨12,0,0,0,[]⟩]
def gc34:List Instr:=[⟨0,0,0,0,[]⟩,⟨7,6,0,0,[]⟩,⟨12,0,0,0,[]⟩,⟨17,0,0,0,[116,46,97]⟩,⟨0,0,0,0,[]⟩,⟨0,1,1,0,[]⟩,⟨9,7,0,1,[]⟩,⟨14,0,0,0,[116,46,98]⟩,⟨16,0,0,0,[116,46,97]⟩,⟨17,0,0,0,[116,46,98]⟩,⟨6,0,7,0,[]⟩,⟨0,1,2,0,[]⟩,⟨2,0,0,1,[]⟩,⟨7,7,0,0,[]⟩,⟨12,0,0,0,[]⟩,⟨6,2,7,2,[]⟩,⟨17,0,0,0,[46,120,108]⟩,⟨14,2,0,0,[46,120,111]⟩,⟨17,0,0,0,[46,120,115]⟩,⟨6,0,2,0,[]⟩,⟨14,0,0,0,[46,120,110]⟩,⟨6,1,7,0,[]⟩,⟨15,0,1,0,[46,120,110]⟩,⟨16,0,0,0,[46,120,115]⟩,⟨17,0,0,0,[46,120,110]⟩,⟨6,2,2,1,[]⟩,⟨16,0,0,0,[46,120,108]⟩,⟨17,0,0,0,[46,120,111]⟩,⟨0,0,0,0,[]⟩,⟨7,7,0,1,[]⟩,⟨12,0,0,0,[]⟩,⟨6,0,7,0,[]⟩,⟨7,6,0,0,[]⟩,⟨12,0,0,0,[]⟩]
def gc40:List Instr:=[⟨6,0,6,2,[]⟩,⟨14,0,0,0,[46,106]⟩,⟨16,0,0,0,[46,107]⟩,⟨17,0,0,0,[46,106]⟩,⟨17,0,0,0,[116,46,97]⟩,⟨0,0,0,0,[]⟩,⟨0,1,1,0,[]⟩,⟨9,7,0,1,[]⟩,⟨14,0,0,0,[116,46,98]⟩,⟨16,0,0,0,[116,46,97]⟩,⟨17,0,0,0,[116,46,98]⟩,⟨6,0,7,2,[]⟩,⟨7,6,0,1,[]⟩,⟨7,7,6,2,[]⟩,⟨0,0,1,0,[]⟩,⟨7,6,0,2,[]⟩,⟨0,0,0,0,[]⟩,⟨7,7,0,1,[]⟩,⟨12,0,0,0,[]⟩,⟨17,0,0,0,[46,107]⟩,⟨6,0,6,0,[]⟩,⟨0,1,255,0,[]⟩,⟨4,1,0,1,[]⟩,⟨14,1,0,0,[46,97]⟩,⟨0,1,1,0,[]⟩,⟨2,0,0,1,[]⟩,⟨7,6,0,0,[]⟩,⟨16,0,0,0,[46,98]⟩,⟨17,0,0,0,[46,97]⟩,⟨6,0,7,0,[]⟩,⟨7,6,0,0,[]⟩,⟨12,0,0,0,[]⟩,⟨17,0,0,0,[46,98]⟩]
def gc41:List Instr:=[⟨12,0,0,0,[]⟩,⟨6,0,6,0,[]⟩,⟨0,1,1,0,[]⟩,⟨3,0,0,1,[]⟩,⟨7,6,0,0,[]⟩]
def gc42:List Instr:=[]
def gc43:List Instr:=[]
def gc44:List Instr:=[⟨12,0,0,0,[]⟩,⟨17,0,0,0,[116,46,97]⟩,⟨0,0,0,0,[]⟩,⟨0,1,1,0,[]⟩,⟨9,7,0,1,[]⟩,⟨14,0,0,0,[116,46,98]⟩,⟨16,0,0,0,[116,46,97]⟩,⟨17,0,0,0,[116,46,98]⟩,⟨6,0,7,0,[]⟩,⟨0,1,256,0,[]⟩,⟨5,0,0,1,[]⟩,⟨7,7,0,0,[]⟩,⟨12,0,0,0,[]⟩,⟨6,2,7,2,[]⟩,⟨17,0,0,0,[46,120,108]⟩,⟨14,2,0,0,[46,120,111]⟩,⟨17,0,0,0,[46,120,115]⟩,⟨6,0,2,0,[]⟩,⟨0,1,255,0,[]⟩,⟨4,1,0,1,[]⟩,⟨14,1,0,0,[46,120,110]⟩,⟨6,1,7,0,[]⟩,⟨5,1,0,1,[]⟩,⟨0,0,256,0,[]⟩,⟨4,1,1,0,[]⟩,⟨14,1,0,0,[46,120,110]⟩,⟨16,0,0,0,[46,120,115]⟩,⟨17,0,0,0,[46,120,110]⟩,⟨6,2,2,1,[]⟩,⟨16,0,0,0,[46,120,108]⟩,⟨17,0,0,0,[46,120,111]⟩,⟨6,0,7,0,[]⟩,⟨0,1,256,0,[]⟩,⟨5,0,0,1,[]⟩,⟨7,7,0,0,[]⟩,⟨12,0,0,0,[]⟩,⟨6,2,7,2,[]⟩,⟨17,0,0,0,[46,121,108]⟩,⟨14,2,0,0,[46,121,111]⟩,⟨17,0,0,0,[46,121,115]⟩,⟨6,0,2,0,[]⟩,⟨0,1,255,0,[]⟩,⟨4,1,0,1,[]⟩,⟨14,1,0,0,[46,121,110]⟩,⟨6,1,7,0,[]⟩,⟨5,1,0,1,[]⟩,⟨0,0,256,0,[]⟩,⟨4,1,1,0,[]⟩,⟨14,1,0,0,[46,121,110]⟩,⟨16,0,0,0,[46,121,115]⟩,⟨17,0,0,0,[46,121,110]⟩,⟨6,2,2,1,[]⟩,⟨16,0,0,0,[46,121,108]⟩,⟨17,0,0,0,[46,121,111]⟩,⟨12,0,0,0,[]⟩,⟨0,0,0,0,[]⟩,⟨7,7,0,1,[]⟩,⟨12,0,0,0,[]⟩]
def gcode(f k:Nat):List Instr:=match f,k with
 |1,0=>gc10
 |1,1=>gc11
 |1,2=>gc12
 |1,3=>gc13
 |1,4=>gc14
 |2,0=>gc20
 |2,1=>gc21
 |2,2=>gc22
 |2,3=>gc23
 |2,4=>gc24
 |3,0=>gc30
 |3,1=>gc31
 |3,2=>gc32
 |3,3=>gc33
 |3,4=>gc34
 |4,0=>gc40
 |4,1=>gc41
 |4,2=>gc42
 |4,3=>gc43
 |4,4=>gc44
 |_,_=>[]
theorem genter1_eq(s:ByteArray):[]++([⟨6,0,6,0,[]⟩,⟨0,1,255,0,[]⟩,⟨4,1,0,1,[]⟩,⟨14,1,0,0,s.data.toList++[46,97]⟩,⟨0,1,1,0,[]⟩,⟨2,0,0,1,[]⟩,⟨7,6,0,0,[]⟩,⟨16,0,0,0,s.data.toList++[46,98]⟩,⟨17,0,0,0,s.data.toList++[46,97]⟩,⟨6,0,7,0,[]⟩,⟨7,6,0,0,[]⟩,⟨12,0,0,0,[]⟩,⟨17,0,0,0,s.data.toList++[46,98]⟩])=preC s.data.toList gc10:=by
 simp[preC,preI,gc10,takeCode,giveCode,joinCode,awayCode,eachCode,turnGo,waitGo,turnCode,List.append_assoc]
theorem gleave1_eq(s:ByteArray):[]++([⟨12,0,0,0,[]⟩,⟨6,0,6,0,[]⟩,⟨0,1,1,0,[]⟩,⟨3,0,0,1,[]⟩,⟨7,6,0,0,[]⟩])=preC s.data.toList gc11:=by
 simp[preC,preI,gc11,takeCode,giveCode,joinCode,awayCode,eachCode,turnGo,waitGo,turnCode,List.append_assoc]
theorem gwait1_eq(s:ByteArray):[]++([⟨12,0,0,0,[]⟩]++(takeCode (s.data.toList++[116]) 7 1 0++(turnCode 12 (s++⟨#[46,120]⟩)++(turnCode 12 (s++⟨#[46,121]⟩)++([⟨12,0,0,0,[]⟩]++(giveCode 7 1 0))))))=preC s.data.toList gc14:=by
 simp[preC,preI,gc14,takeCode,giveCode,joinCode,awayCode,eachCode,turnGo,waitGo,turnCode,List.append_assoc]
theorem genter2_eq(s:ByteArray):[]++([⟨6,0,6,0,[]⟩,⟨0,1,255,0,[]⟩,⟨4,1,0,1,[]⟩,⟨14,1,0,0,s.data.toList++[46,97]⟩,⟨0,1,1,0,[]⟩,⟨2,0,0,1,[]⟩,⟨7,6,0,0,[]⟩,⟨16,0,0,0,s.data.toList++[46,98]⟩,⟨17,0,0,0,s.data.toList++[46,97]⟩,⟨6,0,7,0,[]⟩,⟨7,6,0,0,[]⟩,⟨17,0,0,0,s.data.toList++[46,98]⟩])=preC s.data.toList gc20:=by
 simp[preC,preI,gc20,takeCode,giveCode,joinCode,awayCode,eachCode,turnGo,waitGo,turnCode,List.append_assoc]
theorem gleave2_eq(s:ByteArray):[]++([⟨6,0,6,0,[]⟩,⟨0,1,1,0,[]⟩,⟨3,0,0,1,[]⟩,⟨7,6,0,0,[]⟩])=preC s.data.toList gc21:=by
 simp[preC,preI,gc21,takeCode,giveCode,joinCode,awayCode,eachCode,turnGo,waitGo,turnCode,List.append_assoc]
theorem gwait2_eq(s:ByteArray):[]++([⟨13,0,0,0,[]⟩]++(takeCode (s.data.toList++[116]) 7 1 0++(turnCode 13 (s++⟨#[46,120]⟩)++(turnCode 13 (s++⟨#[46,121]⟩)++([⟨13,0,0,0,[]⟩]++(giveCode 7 1 0))))))=preC s.data.toList gc24:=by
 simp[preC,preI,gc24,takeCode,giveCode,joinCode,awayCode,eachCode,turnGo,waitGo,turnCode,List.append_assoc]
theorem grest3_eq(s:ByteArray):[]++([⟨6,0,7,0,[]⟩,⟨7,6,0,0,[]⟩,⟨12,0,0,0,[]⟩])=preC s.data.toList gc32:=by
 simp[preC,preI,gc32,takeCode,giveCode,joinCode,awayCode,eachCode,turnGo,waitGo,turnCode,List.append_assoc]
theorem ggone3_eq(s:ByteArray):[]++(awayCode)=preC s.data.toList gc33:=by
 simp[preC,preI,gc33,takeCode,giveCode,joinCode,awayCode,eachCode,turnGo,waitGo,turnCode,List.append_assoc]
theorem gwait3_eq(s:ByteArray):[]++(awayCode++(takeCode (s.data.toList++[116]) 7 1 0++([⟨6,0,7,0,[]⟩,⟨0,1,2,0,[]⟩,⟨2,0,0,1,[]⟩,⟨7,7,0,0,[]⟩,⟨12,0,0,0,[]⟩]++(eachCode (waitGo s) (s++⟨#[46,120]⟩)++(giveCode 7 1 0++([⟨6,0,7,0,[]⟩,⟨7,6,0,0,[]⟩,⟨12,0,0,0,[]⟩]))))))=preC s.data.toList gc34:=by
 simp[preC,preI,gc34,takeCode,giveCode,joinCode,awayCode,eachCode,turnGo,waitGo,turnCode,List.append_assoc]
theorem genter4_eq(s:ByteArray):[]++(joinCode s++([⟨6,0,6,0,[]⟩,⟨0,1,255,0,[]⟩,⟨4,1,0,1,[]⟩,⟨14,1,0,0,s.data.toList++[46,97]⟩,⟨0,1,1,0,[]⟩,⟨2,0,0,1,[]⟩,⟨7,6,0,0,[]⟩,⟨16,0,0,0,s.data.toList++[46,98]⟩,⟨17,0,0,0,s.data.toList++[46,97]⟩,⟨6,0,7,0,[]⟩,⟨7,6,0,0,[]⟩,⟨12,0,0,0,[]⟩,⟨17,0,0,0,s.data.toList++[46,98]⟩]))=preC s.data.toList gc40:=by
 simp[preC,preI,gc40,takeCode,giveCode,joinCode,awayCode,eachCode,turnGo,waitGo,turnCode,List.append_assoc]
theorem gleave4_eq(s:ByteArray):[]++([⟨12,0,0,0,[]⟩,⟨6,0,6,0,[]⟩,⟨0,1,1,0,[]⟩,⟨3,0,0,1,[]⟩,⟨7,6,0,0,[]⟩])=preC s.data.toList gc41:=by
 simp[preC,preI,gc41,takeCode,giveCode,joinCode,awayCode,eachCode,turnGo,waitGo,turnCode,List.append_assoc]
theorem gwait4_eq(s:ByteArray):[]++([⟨12,0,0,0,[]⟩]++(takeCode (s.data.toList++[116]) 7 1 0++(turnCode 12 (s++⟨#[46,120]⟩)++(turnCode 12 (s++⟨#[46,121]⟩)++([⟨12,0,0,0,[]⟩]++(giveCode 7 1 0))))))=preC s.data.toList gc44:=by
 simp[preC,preI,gc44,takeCode,giveCode,joinCode,awayCode,eachCode,turnGo,waitGo,turnCode,List.append_assoc]
end
section
open Go.RowKit Qs Qh
variable {w0 w w1:World}{b o:Nat}{v0:Value}{l:List Instr}{br s:ByteArray}{fe jo co:Bool}{u:Value}{c:Nat}
theorem size_plus2(s:ByteArray)(a b:UInt8)(hs:s.size≤4):(s++⟨[a,b].toArray⟩:ByteArray).size≤100:=by
 rw[ByteArray.size_append];have:(⟨[a,b].toArray⟩:ByteArray).size=2:=rfl;omega
theorem flavours1(w:World):Calls Tryz.prog 94 #[.int .i64 1] w fun e w'=>e=.returned (.tuple #[.agg #[.string ⟨#[102,101,110,99,101]⟩,.bool true,.bool false,.bool false],.bool true])∧Mod noF w w':=by
 go_enter Tryz.func94,Tryz.ntmps94
 go_wp2;refine bodyPost_ret (v:=.tuple #[.agg #[.string ⟨#[102,101,110,99,101]⟩,.bool true,.bool false,.bool false],.bool true]) (by simp[results,Tryz.results94,go_sem]) rfl ⟨rfl,?_⟩
 repeat (first|exact Mod.refl _ _|refine Mod.drew ?_|refine Mod.drewN ?_ _|refine Mod.alloc ?_ _|refine Mod.setCell ?_ (fun h=>absurd h (by simp)) _)
theorem flavours2(w:World):Calls Tryz.prog 94 #[.int .i64 2] w fun e w'=>e=.returned (.tuple #[.agg #[.string ⟨#[102,111,114,99,101]⟩,.bool false,.bool false,.bool false],.bool true])∧Mod noF w w':=by
 go_enter Tryz.func94,Tryz.ntmps94
 go_wp2;refine bodyPost_ret (v:=.tuple #[.agg #[.string ⟨#[102,111,114,99,101]⟩,.bool false,.bool false,.bool false],.bool true]) (by simp[results,Tryz.results94,go_sem]) rfl ⟨rfl,?_⟩
 repeat (first|exact Mod.refl _ _|refine Mod.drew ?_|refine Mod.drewN ?_ _|refine Mod.alloc ?_ _|refine Mod.setCell ?_ (fun h=>absurd h (by simp)) _)
theorem flavours3(w:World):Calls Tryz.prog 94 #[.int .i64 3] w fun e w'=>e=.returned (.tuple #[.agg #[.string ⟨#[102,101,110,99,101]⟩,.bool false,.bool false,.bool true],.bool true])∧Mod noF w w':=by
 go_enter Tryz.func94,Tryz.ntmps94
 go_wp2;refine bodyPost_ret (v:=.tuple #[.agg #[.string ⟨#[102,101,110,99,101]⟩,.bool false,.bool false,.bool true],.bool true]) (by simp[results,Tryz.results94,go_sem]) rfl ⟨rfl,?_⟩
 repeat (first|exact Mod.refl _ _|refine Mod.drew ?_|refine Mod.drewN ?_ _|refine Mod.alloc ?_ _|refine Mod.setCell ?_ (fun h=>absurd h (by simp)) _)
theorem flavours4(w:World):Calls Tryz.prog 94 #[.int .i64 4] w fun e w'=>e=.returned (.tuple #[.agg #[.string ⟨#[102,101,110,99,101]⟩,.bool true,.bool true,.bool false],.bool true])∧Mod noF w w':=by
 go_enter Tryz.func94,Tryz.ntmps94
 go_wp2;refine bodyPost_ret (v:=.tuple #[.agg #[.string ⟨#[102,101,110,99,101]⟩,.bool true,.bool true,.bool false],.bool true]) (by simp[results,Tryz.results94,go_sem]) rfl ⟨rfl,?_⟩
 repeat (first|exact Mod.refl _ _|refine Mod.drew ?_|refine Mod.drewN ?_ _|refine Mod.alloc ?_ _|refine Mod.setCell ?_ (fun h=>absurd h (by simp)) _)
theorem begin1_ok(s:ByteArray)(w:World)(hn:nameB s.data.toList=true)(hs:s.size≤4) :
  Calls Tryz.prog 79 #[.int .i64 1,.string s] w fun e w'=>∃b,e=.returned (.tuple #[.pointer (some ⟨b,0,none⟩),.nilIface])∧Mod noF w w'∧w.heap.size≤b∧Emit insT w' b 4 (.slice none 0 0) []∧MkAt w' b (opStr 12) true false false s:=by
 have hsz:s.size≤maxLen:=by unfold maxLen;omega
 have hm:(s.size:Int)≤4:=by omega
 have Hn:=Lib.hid hn;clear hn
 go_enter Tryz.func79,Tryz.ntmps79
 go_wp2_with fail
 refine (flavours1 w).mono ?_;rintro e w1 ⟨rfl,hm1⟩;have Hm1:=Lib.hid hm1;clear hm1
 go_wp2_with (go_at_call 63;refine (prefix_ok s 4 _ hsz Hn.out hm).mono ?_;rintro e w' ⟨rfl,rfl⟩)
 go_ret2;have hs1:=Hm1.out.size;exact ⟨w1.heap.size+1,by simp,(Hm1.out.alloc _).alloc _,by omega,⟨by simp,by simp,InsRow.nil _ _,by simp[Value.ownBlock],by simp⟩,⟨by simp;rfl,by simp,by simp,by simp,by simp⟩⟩
theorem begin2_ok(s:ByteArray)(w:World)(hn:nameB s.data.toList=true)(hs:s.size≤4) :
  Calls Tryz.prog 79 #[.int .i64 2,.string s] w fun e w'=>∃b,e=.returned (.tuple #[.pointer (some ⟨b,0,none⟩),.nilIface])∧Mod noF w w'∧w.heap.size≤b∧Emit insT w' b 4 (.slice none 0 0) []∧MkAt w' b (opStr 13) false false false s:=by
 have hsz:s.size≤maxLen:=by unfold maxLen;omega
 have hm:(s.size:Int)≤4:=by omega
 have Hn:=Lib.hid hn;clear hn
 go_enter Tryz.func79,Tryz.ntmps79
 go_wp2_with fail
 refine (flavours2 w).mono ?_;rintro e w1 ⟨rfl,hm1⟩;have Hm1:=Lib.hid hm1;clear hm1
 go_wp2_with (go_at_call 63;refine (prefix_ok s 4 _ hsz Hn.out hm).mono ?_;rintro e w' ⟨rfl,rfl⟩)
 go_ret2;have hs1:=Hm1.out.size;exact ⟨w1.heap.size+1,by simp,(Hm1.out.alloc _).alloc _,by omega,⟨by simp,by simp,InsRow.nil _ _,by simp[Value.ownBlock],by simp⟩,⟨by simp;rfl,by simp,by simp,by simp,by simp⟩⟩
theorem begin3_ok(s:ByteArray)(w:World)(hn:nameB s.data.toList=true)(hs:s.size≤4) :
  Calls Tryz.prog 79 #[.int .i64 3,.string s] w fun e w'=>∃b,e=.returned (.tuple #[.pointer (some ⟨b,0,none⟩),.nilIface])∧Mod noF w w'∧w.heap.size≤b∧Emit insT w' b 4 (.slice none 0 0) []∧MkAt w' b (opStr 12) false false true s:=by
 have hsz:s.size≤maxLen:=by unfold maxLen;omega
 have hm:(s.size:Int)≤4:=by omega
 have Hn:=Lib.hid hn;clear hn
 go_enter Tryz.func79,Tryz.ntmps79
 go_wp2_with fail
 refine (flavours3 w).mono ?_;rintro e w1 ⟨rfl,hm1⟩;have Hm1:=Lib.hid hm1;clear hm1
 go_wp2_with (go_at_call 63;refine (prefix_ok s 4 _ hsz Hn.out hm).mono ?_;rintro e w' ⟨rfl,rfl⟩)
 go_ret2;have hs1:=Hm1.out.size;exact ⟨w1.heap.size+1,by simp,(Hm1.out.alloc _).alloc _,by omega,⟨by simp,by simp,InsRow.nil _ _,by simp[Value.ownBlock],by simp⟩,⟨by simp;rfl,by simp,by simp,by simp,by simp⟩⟩
theorem begin4_ok(s:ByteArray)(w:World)(hn:nameB s.data.toList=true)(hs:s.size≤4) :
  Calls Tryz.prog 79 #[.int .i64 4,.string s] w fun e w'=>∃b,e=.returned (.tuple #[.pointer (some ⟨b,0,none⟩),.nilIface])∧Mod noF w w'∧w.heap.size≤b∧Emit insT w' b 4 (.slice none 0 0) []∧MkAt w' b (opStr 12) true true false s:=by
 have hsz:s.size≤maxLen:=by unfold maxLen;omega
 have hm:(s.size:Int)≤4:=by omega
 have Hn:=Lib.hid hn;clear hn
 go_enter Tryz.func79,Tryz.ntmps79
 go_wp2_with fail
 refine (flavours4 w).mono ?_;rintro e w1 ⟨rfl,hm1⟩;have Hm1:=Lib.hid hm1;clear hm1
 go_wp2_with (go_at_call 63;refine (prefix_ok s 4 _ hsz Hn.out hm).mono ?_;rintro e w' ⟨rfl,rfl⟩)
 go_ret2;have hs1:=Hm1.out.size;exact ⟨w1.heap.size+1,by simp,(Hm1.out.alloc _).alloc _,by omega,⟨by simp,by simp,InsRow.nil _ _,by simp[Value.ownBlock],by simp⟩,⟨by simp;rfl,by simp,by simp,by simp,by simp⟩⟩
end
section
open Go.RowKit Qs Qh
variable {w0 w w1:World}{b o:Nat}{v0:Value}{l:List Instr}{br s:ByteArray}{fe jo co:Bool}{u:Value}{c:Nat}
theorem genter1_ok(s:ByteArray)(w:World)(hn:nameB s.data.toList=true)(hs:s.size≤4) :
  Calls Tryz.prog 75 #[.int .i64 1,.string s] w fun e w'=>∃v,e=.returned (.tuple #[v,.nilIface])∧Made (preC s.data.toList gc10) w v w':=by
 have Hn:=Lib.hid hn;clear hn
 go_enter Tryz.func75,Tryz.ntmps75
 go_wp2_with fail
 refine (begin1_ok s w Hn.out hs).mono ?_;rintro e x0 ⟨b,rfl,hm,hb,E,M⟩;have HC:=Lib.hid (Chain.start E);have HM:=Lib.hid M;have Hm:=Lib.hid hm;clear hm E M;obtain ⟨h0,h1,h2,h3,-⟩:=HC.out.mk HM.out
 go_wp2_with fail
 refine (op3_chain (HC.out.quiet ((Mod.refl _ _).alloc _)) (by first|omega|simp) 6 _ rfl x0.heap.size 0 6 0 3 (by simp) (by simp) (by simp) (by simp)).mono ?_;clear h0 h1 h2 h3;rintro e x1 ⟨rfl,C⟩;have HC1:=Lib.hid C;clear C;obtain ⟨h0,h1,h2,h3,-⟩:=HC1.out.mk HM.out
 go_wp2_with fail
 refine (op2_chain (HC1.out.quiet ((Mod.refl _ _).alloc _)) (by simp[takeCode,giveCode,joinCode,awayCode,eachCode,turnGo,waitGo,turnCode] <;> omega) 0 _ rfl x1.heap.size 1 255 2 (by simp) (by simp) (by simp)).mono ?_;clear h0 h1 h2 h3;rintro e x2 ⟨rfl,C⟩;have HC2:=Lib.hid C;clear C
 obtain ⟨h0,h1,h2,h3,-⟩:=HC2.out.mk HM.out
 go_wp2_with fail
 refine (op3_chain (HC2.out.quiet ((Mod.refl _ _).alloc _)) (by simp[takeCode,giveCode,joinCode,awayCode,eachCode,turnGo,waitGo,turnCode] <;> omega) 4 _ rfl x2.heap.size 1 0 1 3 (by simp) (by simp) (by simp) (by simp)).mono ?_;clear h0 h1 h2 h3;rintro e x3 ⟨rfl,C⟩;have HC3:=Lib.hid C;clear C
 obtain ⟨h0,h1,h2,h3,-⟩:=HC3.out.mk HM.out
 go_wp2_with fail
 refine (to1_chain (HC3.out.quiet ((Mod.refl _ _).alloc _)) (by simp[takeCode,giveCode,joinCode,awayCode,eachCode,turnGo,waitGo,turnCode] <;> omega) 14 _ rfl (s.data.toList++[46,97]) _ (bytes_cat s _) x3.heap.size 1 1 (by simp) (by simp)).mono ?_;clear h0 h1 h2 h3;rintro e x4 ⟨rfl,C⟩
 have HC4:=Lib.hid C;clear C;obtain ⟨h0,h1,h2,h3,-⟩:=HC4.out.mk HM.out
 go_wp2_with fail
 refine (op2_chain (HC4.out.quiet ((Mod.refl _ _).alloc _)) (by simp[takeCode,giveCode,joinCode,awayCode,eachCode,turnGo,waitGo,turnCode] <;> omega) 0 _ rfl x4.heap.size 1 1 2 (by simp) (by simp) (by simp)).mono ?_;clear h0 h1 h2 h3;rintro e x5 ⟨rfl,C⟩;have HC5:=Lib.hid C;clear C
 obtain ⟨h0,h1,h2,h3,-⟩:=HC5.out.mk HM.out
 go_wp2_with fail
 refine (op3_chain (HC5.out.quiet ((Mod.refl _ _).alloc _)) (by simp[takeCode,giveCode,joinCode,awayCode,eachCode,turnGo,waitGo,turnCode] <;> omega) 2 _ rfl x5.heap.size 0 0 1 3 (by simp) (by simp) (by simp) (by simp)).mono ?_;clear h0 h1 h2 h3;rintro e x6 ⟨rfl,C⟩;have HC6:=Lib.hid C;clear C
 obtain ⟨h0,h1,h2,h3,-⟩:=HC6.out.mk HM.out
 go_wp2_with fail
 refine (op3_chain (HC6.out.quiet ((Mod.refl _ _).alloc _)) (by simp[takeCode,giveCode,joinCode,awayCode,eachCode,turnGo,waitGo,turnCode] <;> omega) 7 _ rfl x6.heap.size 6 0 0 3 (by simp) (by simp) (by simp) (by simp)).mono ?_;clear h0 h1 h2 h3;rintro e x7 ⟨rfl,C⟩;have HC7:=Lib.hid C;clear C
 obtain ⟨h0,h1,h2,h3,-⟩:=HC7.out.mk HM.out
 go_wp2_with fail
 refine (to0_chain HC7.out (by simp[takeCode,giveCode,joinCode,awayCode,eachCode,turnGo,waitGo,turnCode] <;> omega) 16 _ rfl (s.data.toList++[46,98]) _ (bytes_cat s _)).mono ?_;clear h0 h1 h2 h3;rintro e x8 ⟨rfl,C⟩;have HC8:=Lib.hid C;clear C;obtain ⟨h0,h1,h2,h3,-⟩:=HC8.out.mk HM.out
 go_wp2_with fail
 refine (label_chain HC8.out (by simp[takeCode,giveCode,joinCode,awayCode,eachCode,turnGo,waitGo,turnCode] <;> omega) (s.data.toList++[46,97]) _ (bytes_cat s _)).mono ?_;clear h0 h1 h2 h3;rintro e x9 ⟨rfl,C⟩;have HC9:=Lib.hid C;clear C;obtain ⟨h0,h1,h2,h3,-⟩:=HC9.out.mk HM.out
 go_wp2_with fail
 refine (op3_chain (HC9.out.quiet ((Mod.refl _ _).alloc _)) (by simp[takeCode,giveCode,joinCode,awayCode,eachCode,turnGo,waitGo,turnCode] <;> omega) 6 _ rfl x9.heap.size 0 7 0 3 (by simp) (by simp) (by simp) (by simp)).mono ?_;clear h0 h1 h2 h3;rintro e x10 ⟨rfl,C⟩;have HC10:=Lib.hid C;clear C
 obtain ⟨h0,h1,h2,h3,-⟩:=HC10.out.mk HM.out
 go_wp2_with fail
 refine (op3_chain (HC10.out.quiet ((Mod.refl _ _).alloc _)) (by simp[takeCode,giveCode,joinCode,awayCode,eachCode,turnGo,waitGo,turnCode] <;> omega) 7 _ rfl x10.heap.size 6 0 0 3 (by simp) (by simp) (by simp) (by simp)).mono ?_;clear h0 h1 h2 h3;rintro e x11 ⟨rfl,C⟩;have HC11:=Lib.hid C;clear C
 obtain ⟨h0,h1,h2,h3,-⟩:=HC11.out.mk HM.out
 go_wp2_with fail
 refine (op0_chain HC11.out (by simp[takeCode,giveCode,joinCode,awayCode,eachCode,turnGo,waitGo,turnCode] <;> omega) 12 _ rfl).mono ?_;clear h0 h1 h2 h3;rintro e x12 ⟨rfl,C⟩;have HC12:=Lib.hid C;clear C;obtain ⟨h0,h1,h2,h3,-⟩:=HC12.out.mk HM.out
 go_wp2_with fail
 refine (label_chain HC12.out (by simp[takeCode,giveCode,joinCode,awayCode,eachCode,turnGo,waitGo,turnCode] <;> omega) (s.data.toList++[46,98]) _ (bytes_cat s _)).mono ?_;clear h0 h1 h2 h3;rintro e x13 ⟨rfl,C⟩;have HC13:=Lib.hid C;clear C
 obtain ⟨v,ec,hv⟩:=HC13.out.made (w:=w) (by simp[Value.ownBlock]) Hm.out hb;have Hv:=Lib.hid hv;clear hv;go_wp2;go_ret2;exact ⟨v,rfl,by rw[←genter1_eq];simpa[List.append_assoc]using Hv.out⟩
theorem gleave1_ok(s:ByteArray)(w:World)(hn:nameB s.data.toList=true)(hs:s.size≤4) :
  Calls Tryz.prog 76 #[.int .i64 1,.string s] w fun e w'=>∃v,e=.returned (.tuple #[v,.nilIface])∧Made (preC s.data.toList gc11) w v w':=by
 have Hn:=Lib.hid hn;clear hn
 go_enter Tryz.func76,Tryz.ntmps76
 go_wp2_with fail
 refine (begin1_ok s w Hn.out hs).mono ?_;rintro e x0 ⟨b,rfl,hm,hb,E,M⟩;have HC:=Lib.hid (Chain.start E);have HM:=Lib.hid M;have Hm:=Lib.hid hm;clear hm E M;obtain ⟨h0,h1,h2,h3,-⟩:=HC.out.mk HM.out
 go_wp2_with fail
 refine (op0_chain HC.out (by first|omega|simp) 12 _ rfl).mono ?_;clear h0 h1 h2 h3;rintro e x1 ⟨rfl,C⟩;have HC1:=Lib.hid C;clear C;obtain ⟨h0,h1,h2,h3,-⟩:=HC1.out.mk HM.out
 go_wp2_with fail
 refine (op3_chain (HC1.out.quiet ((Mod.refl _ _).alloc _)) (by simp[takeCode,giveCode,joinCode,awayCode,eachCode,turnGo,waitGo,turnCode] <;> omega) 6 _ rfl x1.heap.size 0 6 0 3 (by simp) (by simp) (by simp) (by simp)).mono ?_;clear h0 h1 h2 h3;rintro e x2 ⟨rfl,C⟩;have HC2:=Lib.hid C;clear C
 obtain ⟨h0,h1,h2,h3,-⟩:=HC2.out.mk HM.out
 go_wp2_with fail
 refine (op2_chain (HC2.out.quiet ((Mod.refl _ _).alloc _)) (by simp[takeCode,giveCode,joinCode,awayCode,eachCode,turnGo,waitGo,turnCode] <;> omega) 0 _ rfl x2.heap.size 1 1 2 (by simp) (by simp) (by simp)).mono ?_;clear h0 h1 h2 h3;rintro e x3 ⟨rfl,C⟩;have HC3:=Lib.hid C;clear C
 obtain ⟨h0,h1,h2,h3,-⟩:=HC3.out.mk HM.out
 go_wp2_with fail
 refine (op3_chain (HC3.out.quiet ((Mod.refl _ _).alloc _)) (by simp[takeCode,giveCode,joinCode,awayCode,eachCode,turnGo,waitGo,turnCode] <;> omega) 3 _ rfl x3.heap.size 0 0 1 3 (by simp) (by simp) (by simp) (by simp)).mono ?_;clear h0 h1 h2 h3;rintro e x4 ⟨rfl,C⟩;have HC4:=Lib.hid C;clear C
 obtain ⟨h0,h1,h2,h3,-⟩:=HC4.out.mk HM.out
 go_wp2_with fail
 refine (op3_chain (HC4.out.quiet ((Mod.refl _ _).alloc _)) (by simp[takeCode,giveCode,joinCode,awayCode,eachCode,turnGo,waitGo,turnCode] <;> omega) 7 _ rfl x4.heap.size 6 0 0 3 (by simp) (by simp) (by simp) (by simp)).mono ?_;clear h0 h1 h2 h3;rintro e x5 ⟨rfl,C⟩;have HC5:=Lib.hid C;clear C
 obtain ⟨v,ec,hv⟩:=HC5.out.made (w:=w) (by simp[Value.ownBlock]) Hm.out hb;have Hv:=Lib.hid hv;clear hv;go_wp2;go_ret2;exact ⟨v,rfl,by rw[←gleave1_eq];simpa[List.append_assoc]using Hv.out⟩
theorem grest1_ok(s:ByteArray)(w:World)(hn:nameB s.data.toList=true)(hs:s.size≤4) :
  Calls Tryz.prog 85 #[.int .i64 1,.string s] w fun e w'=>∃v,e=.returned (.tuple #[v,.nilIface])∧Made (preC s.data.toList gc12) w v w':=by
 have Hn:=Lib.hid hn;clear hn
 go_enter Tryz.func85,Tryz.ntmps85
 go_wp2_with fail
 refine (begin1_ok s w Hn.out hs).mono ?_;rintro e x0 ⟨b,rfl,hm,hb,E,M⟩;have h3:=M.c3;have Hm:=Lib.hid hm;clear hm hb E M;go_wp2;go_ret2;exact ⟨_,rfl,InsRow.nil _ _,Hm.out.toBelow,by simp[Value.ownBlock]⟩
theorem ggone1_ok(s:ByteArray)(w:World)(hn:nameB s.data.toList=true)(hs:s.size≤4) :
  Calls Tryz.prog 48 #[.int .i64 1,.string s] w fun e w'=>∃v,e=.returned (.tuple #[v,.nilIface])∧Made (preC s.data.toList gc13) w v w':=by
 have Hn:=Lib.hid hn;clear hn
 go_enter Tryz.func48,Tryz.ntmps48
 go_wp2_with fail
 refine (begin1_ok s w Hn.out hs).mono ?_;rintro e x0 ⟨b,rfl,hm,hb,E,M⟩;have h3:=M.c3;have Hm:=Lib.hid hm;clear hm hb E M;go_wp2;go_ret2;exact ⟨_,rfl,InsRow.nil _ _,Hm.out.toBelow,by simp[Value.ownBlock]⟩
theorem gwait1_ok(s:ByteArray)(w:World)(hn:nameB s.data.toList=true)(hs:s.size≤4) :
  Calls Tryz.prog 86 #[.int .i64 1,.string s] w fun e w'=>∃v,e=.returned (.tuple #[v,.nilIface])∧Made (preC s.data.toList gc14) w v w':=by
 have Hn:=Lib.hid hn;clear hn
 go_enter Tryz.func86,Tryz.ntmps86
 go_wp2_with fail
 refine (begin1_ok s _ Hn.out hs).mono ?_;rintro e w1 ⟨b,rfl,hm,hb0,E,M⟩;have hsw:=hm.size;have hlb:=E.lt
 have hb1:w.heap.size<b:=by simp at hb0;omega
 have hp0:w1.cell? ⟨w.heap.size,0,none⟩=some (.string s):=hm.cell (by simp) (fun e=>e);have hq:Mod noF w1 (w1.alloc (.cells #[.pointer (some ⟨b,0,none⟩)] 135)):=(Mod.refl _ _).alloc _;have E1:=E.quiet hq;have HC:=Lib.hid (Chain.start E1);have HM:=Lib.hid (M.quiet hq)
 have Hm:=Lib.hid ((((Mod.refl noF w).alloc _).trans0 hm).trans0 hq);have Hv:=Lib.hid E1.cell
 have hcp:w.heap.size<w1.heap.size:=by simp at hsw;omega
 have hrow:∀(c:Nat) v,(w1.alloc (.cells #[.pointer (some ⟨b,0,none⟩)] 135)).cell? ⟨b,4,none⟩=some v→v.ownBlock≠some c:=fun c v h e=>by
  rw[E1.cell]at h;cases h;cases e
 have HKm:=Lib.hid (⟨by simp,by simp,by omega,hrow _⟩:Cap (w1.alloc (.cells #[.pointer (some ⟨b,0,none⟩)] 135)) b w1.heap.size (.pointer (some ⟨b,0,none⟩)))
 have HKp:=Lib.hid (⟨hq.cell hp0 (fun e=>e),by simp;omega,by omega,hrow _⟩:Cap (w1.alloc (.cells #[.pointer (some ⟨b,0,none⟩)] 135)) b w.heap.size (.string s))
 have hb:w.heap.size≤b:=by omega
 clear hm E M E1 hq hp0 hrow hsw hb0 hb1;obtain ⟨h0,h1,h2,h3,-⟩:=HC.out.mk HM.out;have hm:=(HKm.out.next Hv.out HC.out).cell;have hp:=(HKp.out.next Hv.out HC.out).cell;go_wp2;clear h0 h1 h2 h3 hm hp;go_wp2
 refine wp_region_held_drew (S:=fun W=>W.cell? ⟨w1.heap.size,0,none⟩=some (.pointer (some ⟨b,0,none⟩))∧W.cell? ⟨b,0,none⟩=some (.string (opStr 12))) (by kernel_rfl) ⟨(Mod.refl noF _).drew.cell (HKm.out.next Hv.out HC.out).cell (fun e=>e),(Mod.refl noF _).drew.cell (HC.out.mk HM.out).c0 (fun e=>e)⟩ (fun hHeld=>?_)
 iterate 8
  first|refine tk 0 (by decide +kernel) ?_|refine tk 1 (by decide +kernel) ?_|refine tk 2 (by decide +kernel) ?_|refine tk 3 (by decide +kernel) ?_|refine tk 4 (by decide +kernel) ?_|refine tk 5 (by decide +kernel) ?_|refine tk 6 (by decide +kernel) ?_|refine tk 7 (by decide +kernel) ?_
  apply Exists.intro;apply And.intro;(rw[List.getElem?_toArray];rfl);apply Exists.intro;refine ⟨by assumption,fun _ _ _ h=>h,?_,?_⟩
  ·refine Or.inl ⟨by rfl,?_⟩;intro w hSw;(try dsimp only at hSw);go_simp;(try rw[if_neg (by omega)]);try with_reducible rfl
  try simp only[Act.put,List.setIfInBounds_toArray,List.set_cons_zero,List.set_cons_succ]
 refine em_spine (items:=[⟨none,8,31⟩]) (E:=[⟨12,[],[],3,30⟩]) (r0:=25) (by kernel_rfl) (by kernel_rfl) (by kernel_rfl) (by rfl) ?lb1 (by rfl) (by rfl) ?len1 (fun w' l' C=>⟨(HKm.out.next Hv.out C).cell,(C.mk HM.out).c0⟩) (HC.out.quiet (Mod.refl _ _).drew) (by kernel_rfl) ?_
 case lb1=>(intro e he hk;simp only[List.mem_cons,List.not_mem_nil,or_false]at he;rcases he with rfl <;> (first|exact absurd rfl hk|exact congrArg Value.string (rfl)))
 case len1=>(first|(simp[takeCode,giveCode,joinCode,awayCode,eachCode,turnGo,waitGo,turnCode] <;> omega)|(simp <;> omega))
 intro U x1 C hU;have u31:U 31=_:=hU 0 _ rfl
 simp only[spTmps,SpI.tmps,List.flatMap_cons,List.flatMap_nil,Option.map_some,Option.map_none,Option.toList_some,Option.toList_none,List.cons_append,List.nil_append,List.append_nil,patch,List.foldl_cons,List.foldl_nil,Act.put,List.setIfInBounds_toArray,List.set_cons_zero,List.set_cons_succ,u31]
 clear u31 hU hHeld;simp only[List.map_cons,List.map_nil,EmC.ins,List.getD_cons_zero,List.getD_cons_succ,List.getD_nil]at C;have HC1:=Lib.hid C;clear C;obtain ⟨h0,h1,h2,h3,-⟩:=HC1.out.mk HM.out;have hm:=(HKm.out.next Hv.out HC1.out).cell;have hp:=(HKp.out.next Hv.out HC1.out).cell
 go_wp2_with fail
 clear h0 h1 h2 h3 hm hp;have hg:=gtake_chain HC1.out (HC1.out.mk HM.out) (by simp[takeCode,giveCode,joinCode,awayCode,eachCode,turnGo,waitGo,turnCode] <;> omega) Hn.out hs;refine hg.mono ?_;rintro e x2 ⟨rfl,C⟩;have HC2:=Lib.hid C;clear C hg;obtain ⟨h0,h1,h2,h3,-⟩:=HC2.out.mk HM.out
 have hm:=(HKm.out.next Hv.out HC2.out).cell;have hp:=(HKp.out.next Hv.out HC2.out).cell
 go_wp2_with fail
 clear h0 h1 h2 h3 hm hp;have hg:=gturn_chain (s++⟨#[46,120]⟩) (size_plus2 s _ _ hs) 12 rfl HC2.out (HC2.out.mk HM.out) (by simp[takeCode,giveCode,joinCode,awayCode,eachCode,turnGo,waitGo,turnCode] <;> omega);refine hg.mono ?_;rintro e x3 ⟨rfl,C⟩;have HC3:=Lib.hid C;clear C hg
 obtain ⟨h0,h1,h2,h3,-⟩:=HC3.out.mk HM.out;have hm:=(HKm.out.next Hv.out HC3.out).cell;have hp:=(HKp.out.next Hv.out HC3.out).cell
 go_wp2_with fail
 clear h0 h1 h2 h3 hm hp;have hg:=gturn_chain (s++⟨#[46,121]⟩) (size_plus2 s _ _ hs) 12 rfl HC3.out (HC3.out.mk HM.out) (by simp[takeCode,giveCode,joinCode,awayCode,eachCode,turnGo,waitGo,turnCode] <;> omega);refine hg.mono ?_;rintro e x4 ⟨rfl,C⟩;have HC4:=Lib.hid C;clear C hg;go_wp2
 refine wp_region_held_drew (S:=fun W=>W.cell? ⟨w1.heap.size,0,none⟩=some (.pointer (some ⟨b,0,none⟩))∧W.cell? ⟨b,0,none⟩=some (.string (opStr 12))) (by kernel_rfl) ⟨(Mod.refl noF _).drew.cell (HKm.out.next Hv.out HC4.out).cell (fun e=>e),(Mod.refl noF _).drew.cell (HC4.out.mk HM.out).c0 (fun e=>e)⟩ (fun hHeld=>?_)
 iterate 8
  first|refine tk 0 (by decide +kernel) ?_|refine tk 1 (by decide +kernel) ?_|refine tk 2 (by decide +kernel) ?_|refine tk 3 (by decide +kernel) ?_|refine tk 4 (by decide +kernel) ?_|refine tk 5 (by decide +kernel) ?_|refine tk 6 (by decide +kernel) ?_|refine tk 7 (by decide +kernel) ?_
  apply Exists.intro;apply And.intro;(rw[List.getElem?_toArray];rfl);apply Exists.intro;refine ⟨by assumption,fun _ _ _ h=>h,?_,?_⟩
  ·refine Or.inl ⟨by rfl,?_⟩;intro w hSw;(try dsimp only at hSw);go_simp;(try rw[if_neg (by omega)]);try with_reducible rfl
  try simp only[Act.put,List.setIfInBounds_toArray,List.set_cons_zero,List.set_cons_succ]
 refine em_spine (items:=[⟨none,8,50⟩]) (E:=[⟨12,[],[],3,49⟩]) (r0:=44) (by kernel_rfl) (by kernel_rfl) (by kernel_rfl) (by rfl) ?lb5 (by rfl) (by rfl) ?len5 (fun w' l' C=>⟨(HKm.out.next Hv.out C).cell,(C.mk HM.out).c0⟩) (HC4.out.quiet (Mod.refl _ _).drew) (by kernel_rfl) ?_
 case lb5=>(intro e he hk;simp only[List.mem_cons,List.not_mem_nil,or_false]at he;rcases he with rfl <;> (first|exact absurd rfl hk|exact congrArg Value.string (rfl)))
 case len5=>(first|(simp[takeCode,giveCode,joinCode,awayCode,eachCode,turnGo,waitGo,turnCode] <;> omega)|(simp <;> omega))
 intro U x5 C hU;have u50:U 50=_:=hU 0 _ rfl
 simp only[spTmps,SpI.tmps,List.flatMap_cons,List.flatMap_nil,Option.map_some,Option.map_none,Option.toList_some,Option.toList_none,List.cons_append,List.nil_append,List.append_nil,patch,List.foldl_cons,List.foldl_nil,Act.put,List.setIfInBounds_toArray,List.set_cons_zero,List.set_cons_succ,u50]
 clear u50 hU hHeld;simp only[List.map_cons,List.map_nil,EmC.ins,List.getD_cons_zero,List.getD_cons_succ,List.getD_nil]at C;have HC5:=Lib.hid C;clear C;obtain ⟨h0,h1,h2,h3,-⟩:=HC5.out.mk HM.out;have hm:=(HKm.out.next Hv.out HC5.out).cell;have hp:=(HKp.out.next Hv.out HC5.out).cell
 go_wp2_with fail
 clear h0 h1 h2 h3 hm hp;have hg:=ggive_chain HC5.out (HC5.out.mk HM.out) (by simp[takeCode,giveCode,joinCode,awayCode,eachCode,turnGo,waitGo,turnCode] <;> omega) Hn.out hs;refine hg.mono ?_;rintro e x6 ⟨rfl,C⟩;have HC6:=Lib.hid C;clear C hg;obtain ⟨h0,h1,h2,h3,-⟩:=HC6.out.mk HM.out
 have hm:=(HKm.out.next Hv.out HC6.out).cell;have hp:=(HKp.out.next Hv.out HC6.out).cell;obtain ⟨v,ec,hv⟩:=HC6.out.made (w:=w) (by simp[Value.ownBlock]) Hm.out hb;have Hv:=Lib.hid hv;clear hv;go_wp2;go_ret2;exact ⟨v,rfl,by rw[←gwait1_eq];simpa[List.append_assoc]using Hv.out⟩
end
section
open Go.RowKit Qs Qh
variable {w0 w w1:World}{b o:Nat}{v0:Value}{l:List Instr}{br s:ByteArray}{fe jo co:Bool}{u:Value}{c:Nat}
theorem genter2_ok(s:ByteArray)(w:World)(hn:nameB s.data.toList=true)(hs:s.size≤4) :
  Calls Tryz.prog 75 #[.int .i64 2,.string s] w fun e w'=>∃v,e=.returned (.tuple #[v,.nilIface])∧Made (preC s.data.toList gc20) w v w':=by
 have Hn:=Lib.hid hn;clear hn
 go_enter Tryz.func75,Tryz.ntmps75
 go_wp2_with fail
 refine (begin2_ok s w Hn.out hs).mono ?_;rintro e x0 ⟨b,rfl,hm,hb,E,M⟩;have HC:=Lib.hid (Chain.start E);have HM:=Lib.hid M;have Hm:=Lib.hid hm;clear hm E M;obtain ⟨h0,h1,h2,h3,-⟩:=HC.out.mk HM.out
 go_wp2_with fail
 refine (op3_chain (HC.out.quiet ((Mod.refl _ _).alloc _)) (by first|omega|simp) 6 _ rfl x0.heap.size 0 6 0 3 (by simp) (by simp) (by simp) (by simp)).mono ?_;clear h0 h1 h2 h3;rintro e x1 ⟨rfl,C⟩;have HC1:=Lib.hid C;clear C;obtain ⟨h0,h1,h2,h3,-⟩:=HC1.out.mk HM.out
 go_wp2_with fail
 refine (op2_chain (HC1.out.quiet ((Mod.refl _ _).alloc _)) (by simp[takeCode,giveCode,joinCode,awayCode,eachCode,turnGo,waitGo,turnCode] <;> omega) 0 _ rfl x1.heap.size 1 255 2 (by simp) (by simp) (by simp)).mono ?_;clear h0 h1 h2 h3;rintro e x2 ⟨rfl,C⟩;have HC2:=Lib.hid C;clear C
 obtain ⟨h0,h1,h2,h3,-⟩:=HC2.out.mk HM.out
 go_wp2_with fail
 refine (op3_chain (HC2.out.quiet ((Mod.refl _ _).alloc _)) (by simp[takeCode,giveCode,joinCode,awayCode,eachCode,turnGo,waitGo,turnCode] <;> omega) 4 _ rfl x2.heap.size 1 0 1 3 (by simp) (by simp) (by simp) (by simp)).mono ?_;clear h0 h1 h2 h3;rintro e x3 ⟨rfl,C⟩;have HC3:=Lib.hid C;clear C
 obtain ⟨h0,h1,h2,h3,-⟩:=HC3.out.mk HM.out
 go_wp2_with fail
 refine (to1_chain (HC3.out.quiet ((Mod.refl _ _).alloc _)) (by simp[takeCode,giveCode,joinCode,awayCode,eachCode,turnGo,waitGo,turnCode] <;> omega) 14 _ rfl (s.data.toList++[46,97]) _ (bytes_cat s _) x3.heap.size 1 1 (by simp) (by simp)).mono ?_;clear h0 h1 h2 h3;rintro e x4 ⟨rfl,C⟩
 have HC4:=Lib.hid C;clear C;obtain ⟨h0,h1,h2,h3,-⟩:=HC4.out.mk HM.out
 go_wp2_with fail
 refine (op2_chain (HC4.out.quiet ((Mod.refl _ _).alloc _)) (by simp[takeCode,giveCode,joinCode,awayCode,eachCode,turnGo,waitGo,turnCode] <;> omega) 0 _ rfl x4.heap.size 1 1 2 (by simp) (by simp) (by simp)).mono ?_;clear h0 h1 h2 h3;rintro e x5 ⟨rfl,C⟩;have HC5:=Lib.hid C;clear C
 obtain ⟨h0,h1,h2,h3,-⟩:=HC5.out.mk HM.out
 go_wp2_with fail
 refine (op3_chain (HC5.out.quiet ((Mod.refl _ _).alloc _)) (by simp[takeCode,giveCode,joinCode,awayCode,eachCode,turnGo,waitGo,turnCode] <;> omega) 2 _ rfl x5.heap.size 0 0 1 3 (by simp) (by simp) (by simp) (by simp)).mono ?_;clear h0 h1 h2 h3;rintro e x6 ⟨rfl,C⟩;have HC6:=Lib.hid C;clear C
 obtain ⟨h0,h1,h2,h3,-⟩:=HC6.out.mk HM.out
 go_wp2_with fail
 refine (op3_chain (HC6.out.quiet ((Mod.refl _ _).alloc _)) (by simp[takeCode,giveCode,joinCode,awayCode,eachCode,turnGo,waitGo,turnCode] <;> omega) 7 _ rfl x6.heap.size 6 0 0 3 (by simp) (by simp) (by simp) (by simp)).mono ?_;clear h0 h1 h2 h3;rintro e x7 ⟨rfl,C⟩;have HC7:=Lib.hid C;clear C
 obtain ⟨h0,h1,h2,h3,-⟩:=HC7.out.mk HM.out
 go_wp2_with fail
 refine (to0_chain HC7.out (by simp[takeCode,giveCode,joinCode,awayCode,eachCode,turnGo,waitGo,turnCode] <;> omega) 16 _ rfl (s.data.toList++[46,98]) _ (bytes_cat s _)).mono ?_;clear h0 h1 h2 h3;rintro e x8 ⟨rfl,C⟩;have HC8:=Lib.hid C;clear C;obtain ⟨h0,h1,h2,h3,-⟩:=HC8.out.mk HM.out
 go_wp2_with fail
 refine (label_chain HC8.out (by simp[takeCode,giveCode,joinCode,awayCode,eachCode,turnGo,waitGo,turnCode] <;> omega) (s.data.toList++[46,97]) _ (bytes_cat s _)).mono ?_;clear h0 h1 h2 h3;rintro e x9 ⟨rfl,C⟩;have HC9:=Lib.hid C;clear C;obtain ⟨h0,h1,h2,h3,-⟩:=HC9.out.mk HM.out
 go_wp2_with fail
 refine (op3_chain (HC9.out.quiet ((Mod.refl _ _).alloc _)) (by simp[takeCode,giveCode,joinCode,awayCode,eachCode,turnGo,waitGo,turnCode] <;> omega) 6 _ rfl x9.heap.size 0 7 0 3 (by simp) (by simp) (by simp) (by simp)).mono ?_;clear h0 h1 h2 h3;rintro e x10 ⟨rfl,C⟩;have HC10:=Lib.hid C;clear C
 obtain ⟨h0,h1,h2,h3,-⟩:=HC10.out.mk HM.out
 go_wp2_with fail
 refine (op3_chain (HC10.out.quiet ((Mod.refl _ _).alloc _)) (by simp[takeCode,giveCode,joinCode,awayCode,eachCode,turnGo,waitGo,turnCode] <;> omega) 7 _ rfl x10.heap.size 6 0 0 3 (by simp) (by simp) (by simp) (by simp)).mono ?_;clear h0 h1 h2 h3;rintro e x11 ⟨rfl,C⟩;have HC11:=Lib.hid C;clear C
 obtain ⟨h0,h1,h2,h3,-⟩:=HC11.out.mk HM.out
 go_wp2_with fail
 refine (label_chain HC11.out (by simp[takeCode,giveCode,joinCode,awayCode,eachCode,turnGo,waitGo,turnCode] <;> omega) (s.data.toList++[46,98]) _ (bytes_cat s _)).mono ?_;clear h0 h1 h2 h3;rintro e x12 ⟨rfl,C⟩;have HC12:=Lib.hid C;clear C
 obtain ⟨v,ec,hv⟩:=HC12.out.made (w:=w) (by simp[Value.ownBlock]) Hm.out hb;have Hv:=Lib.hid hv;clear hv;go_wp2;go_ret2;exact ⟨v,rfl,by rw[←genter2_eq];simpa[List.append_assoc]using Hv.out⟩
theorem gleave2_ok(s:ByteArray)(w:World)(hn:nameB s.data.toList=true)(hs:s.size≤4) :
  Calls Tryz.prog 76 #[.int .i64 2,.string s] w fun e w'=>∃v,e=.returned (.tuple #[v,.nilIface])∧Made (preC s.data.toList gc21) w v w':=by
 have Hn:=Lib.hid hn;clear hn
 go_enter Tryz.func76,Tryz.ntmps76
 go_wp2_with fail
 refine (begin2_ok s w Hn.out hs).mono ?_;rintro e x0 ⟨b,rfl,hm,hb,E,M⟩;have HC:=Lib.hid (Chain.start E);have HM:=Lib.hid M;have Hm:=Lib.hid hm;clear hm E M;obtain ⟨h0,h1,h2,h3,-⟩:=HC.out.mk HM.out
 go_wp2_with fail
 refine (op3_chain (HC.out.quiet ((Mod.refl _ _).alloc _)) (by first|omega|simp) 6 _ rfl x0.heap.size 0 6 0 3 (by simp) (by simp) (by simp) (by simp)).mono ?_;clear h0 h1 h2 h3;rintro e x1 ⟨rfl,C⟩;have HC1:=Lib.hid C;clear C;obtain ⟨h0,h1,h2,h3,-⟩:=HC1.out.mk HM.out
 go_wp2_with fail
 refine (op2_chain (HC1.out.quiet ((Mod.refl _ _).alloc _)) (by simp[takeCode,giveCode,joinCode,awayCode,eachCode,turnGo,waitGo,turnCode] <;> omega) 0 _ rfl x1.heap.size 1 1 2 (by simp) (by simp) (by simp)).mono ?_;clear h0 h1 h2 h3;rintro e x2 ⟨rfl,C⟩;have HC2:=Lib.hid C;clear C
 obtain ⟨h0,h1,h2,h3,-⟩:=HC2.out.mk HM.out
 go_wp2_with fail
 refine (op3_chain (HC2.out.quiet ((Mod.refl _ _).alloc _)) (by simp[takeCode,giveCode,joinCode,awayCode,eachCode,turnGo,waitGo,turnCode] <;> omega) 3 _ rfl x2.heap.size 0 0 1 3 (by simp) (by simp) (by simp) (by simp)).mono ?_;clear h0 h1 h2 h3;rintro e x3 ⟨rfl,C⟩;have HC3:=Lib.hid C;clear C
 obtain ⟨h0,h1,h2,h3,-⟩:=HC3.out.mk HM.out
 go_wp2_with fail
 refine (op3_chain (HC3.out.quiet ((Mod.refl _ _).alloc _)) (by simp[takeCode,giveCode,joinCode,awayCode,eachCode,turnGo,waitGo,turnCode] <;> omega) 7 _ rfl x3.heap.size 6 0 0 3 (by simp) (by simp) (by simp) (by simp)).mono ?_;clear h0 h1 h2 h3;rintro e x4 ⟨rfl,C⟩;have HC4:=Lib.hid C;clear C
 obtain ⟨v,ec,hv⟩:=HC4.out.made (w:=w) (by simp[Value.ownBlock]) Hm.out hb;have Hv:=Lib.hid hv;clear hv;go_wp2;go_ret2;exact ⟨v,rfl,by rw[←gleave2_eq];simpa[List.append_assoc]using Hv.out⟩
theorem grest2_ok(s:ByteArray)(w:World)(hn:nameB s.data.toList=true)(hs:s.size≤4) :
  Calls Tryz.prog 85 #[.int .i64 2,.string s] w fun e w'=>∃v,e=.returned (.tuple #[v,.nilIface])∧Made (preC s.data.toList gc22) w v w':=by
 have Hn:=Lib.hid hn;clear hn
 go_enter Tryz.func85,Tryz.ntmps85
 go_wp2_with fail
 refine (begin2_ok s w Hn.out hs).mono ?_;rintro e x0 ⟨b,rfl,hm,hb,E,M⟩;have h3:=M.c3;have Hm:=Lib.hid hm;clear hm hb E M;go_wp2;go_ret2;exact ⟨_,rfl,InsRow.nil _ _,Hm.out.toBelow,by simp[Value.ownBlock]⟩
theorem ggone2_ok(s:ByteArray)(w:World)(hn:nameB s.data.toList=true)(hs:s.size≤4) :
  Calls Tryz.prog 48 #[.int .i64 2,.string s] w fun e w'=>∃v,e=.returned (.tuple #[v,.nilIface])∧Made (preC s.data.toList gc23) w v w':=by
 have Hn:=Lib.hid hn;clear hn
 go_enter Tryz.func48,Tryz.ntmps48
 go_wp2_with fail
 refine (begin2_ok s w Hn.out hs).mono ?_;rintro e x0 ⟨b,rfl,hm,hb,E,M⟩;have h3:=M.c3;have Hm:=Lib.hid hm;clear hm hb E M;go_wp2;go_ret2;exact ⟨_,rfl,InsRow.nil _ _,Hm.out.toBelow,by simp[Value.ownBlock]⟩
theorem gwait2_ok(s:ByteArray)(w:World)(hn:nameB s.data.toList=true)(hs:s.size≤4) :
  Calls Tryz.prog 86 #[.int .i64 2,.string s] w fun e w'=>∃v,e=.returned (.tuple #[v,.nilIface])∧Made (preC s.data.toList gc24) w v w':=by
 have Hn:=Lib.hid hn;clear hn
 go_enter Tryz.func86,Tryz.ntmps86
 go_wp2_with fail
 refine (begin2_ok s _ Hn.out hs).mono ?_;rintro e w1 ⟨b,rfl,hm,hb0,E,M⟩;have hsw:=hm.size;have hlb:=E.lt
 have hb1:w.heap.size<b:=by simp at hb0;omega
 have hp0:w1.cell? ⟨w.heap.size,0,none⟩=some (.string s):=hm.cell (by simp) (fun e=>e);have hq:Mod noF w1 (w1.alloc (.cells #[.pointer (some ⟨b,0,none⟩)] 135)):=(Mod.refl _ _).alloc _;have E1:=E.quiet hq;have HC:=Lib.hid (Chain.start E1);have HM:=Lib.hid (M.quiet hq)
 have Hm:=Lib.hid ((((Mod.refl noF w).alloc _).trans0 hm).trans0 hq);have Hv:=Lib.hid E1.cell
 have hcp:w.heap.size<w1.heap.size:=by simp at hsw;omega
 have hrow:∀(c:Nat) v,(w1.alloc (.cells #[.pointer (some ⟨b,0,none⟩)] 135)).cell? ⟨b,4,none⟩=some v→v.ownBlock≠some c:=fun c v h e=>by
  rw[E1.cell]at h;cases h;cases e
 have HKm:=Lib.hid (⟨by simp,by simp,by omega,hrow _⟩:Cap (w1.alloc (.cells #[.pointer (some ⟨b,0,none⟩)] 135)) b w1.heap.size (.pointer (some ⟨b,0,none⟩)))
 have HKp:=Lib.hid (⟨hq.cell hp0 (fun e=>e),by simp;omega,by omega,hrow _⟩:Cap (w1.alloc (.cells #[.pointer (some ⟨b,0,none⟩)] 135)) b w.heap.size (.string s))
 have hb:w.heap.size≤b:=by omega
 clear hm E M E1 hq hp0 hrow hsw hb0 hb1;obtain ⟨h0,h1,h2,h3,-⟩:=HC.out.mk HM.out;have hm:=(HKm.out.next Hv.out HC.out).cell;have hp:=(HKp.out.next Hv.out HC.out).cell;go_wp2;clear h0 h1 h2 h3 hm hp;go_wp2
 refine wp_region_held_drew (S:=fun W=>W.cell? ⟨w1.heap.size,0,none⟩=some (.pointer (some ⟨b,0,none⟩))∧W.cell? ⟨b,0,none⟩=some (.string (opStr 13))) (by kernel_rfl) ⟨(Mod.refl noF _).drew.cell (HKm.out.next Hv.out HC.out).cell (fun e=>e),(Mod.refl noF _).drew.cell (HC.out.mk HM.out).c0 (fun e=>e)⟩ (fun hHeld=>?_)
 iterate 8
  first|refine tk 0 (by decide +kernel) ?_|refine tk 1 (by decide +kernel) ?_|refine tk 2 (by decide +kernel) ?_|refine tk 3 (by decide +kernel) ?_|refine tk 4 (by decide +kernel) ?_|refine tk 5 (by decide +kernel) ?_|refine tk 6 (by decide +kernel) ?_|refine tk 7 (by decide +kernel) ?_
  apply Exists.intro;apply And.intro;(rw[List.getElem?_toArray];rfl);apply Exists.intro;refine ⟨by assumption,fun _ _ _ h=>h,?_,?_⟩
  ·refine Or.inl ⟨by rfl,?_⟩;intro w hSw;(try dsimp only at hSw);go_simp;(try rw[if_neg (by omega)]);try with_reducible rfl
  try simp only[Act.put,List.setIfInBounds_toArray,List.set_cons_zero,List.set_cons_succ]
 refine em_spine (items:=[⟨none,8,31⟩]) (E:=[⟨13,[],[],3,30⟩]) (r0:=25) (by kernel_rfl) (by kernel_rfl) (by kernel_rfl) (by rfl) ?lb1 (by rfl) (by rfl) ?len1 (fun w' l' C=>⟨(HKm.out.next Hv.out C).cell,(C.mk HM.out).c0⟩) (HC.out.quiet (Mod.refl _ _).drew) (by kernel_rfl) ?_
 case lb1=>(intro e he hk;simp only[List.mem_cons,List.not_mem_nil,or_false]at he;rcases he with rfl <;> (first|exact absurd rfl hk|exact congrArg Value.string (rfl)))
 case len1=>(first|(simp[takeCode,giveCode,joinCode,awayCode,eachCode,turnGo,waitGo,turnCode] <;> omega)|(simp <;> omega))
 intro U x1 C hU;have u31:U 31=_:=hU 0 _ rfl
 simp only[spTmps,SpI.tmps,List.flatMap_cons,List.flatMap_nil,Option.map_some,Option.map_none,Option.toList_some,Option.toList_none,List.cons_append,List.nil_append,List.append_nil,patch,List.foldl_cons,List.foldl_nil,Act.put,List.setIfInBounds_toArray,List.set_cons_zero,List.set_cons_succ,u31]
 clear u31 hU hHeld;simp only[List.map_cons,List.map_nil,EmC.ins,List.getD_cons_zero,List.getD_cons_succ,List.getD_nil]at C;have HC1:=Lib.hid C;clear C;obtain ⟨h0,h1,h2,h3,-⟩:=HC1.out.mk HM.out;have hm:=(HKm.out.next Hv.out HC1.out).cell;have hp:=(HKp.out.next Hv.out HC1.out).cell
 go_wp2_with fail
 clear h0 h1 h2 h3 hm hp;have hg:=gtake_chain HC1.out (HC1.out.mk HM.out) (by simp[takeCode,giveCode,joinCode,awayCode,eachCode,turnGo,waitGo,turnCode] <;> omega) Hn.out hs;refine hg.mono ?_;rintro e x2 ⟨rfl,C⟩;have HC2:=Lib.hid C;clear C hg;obtain ⟨h0,h1,h2,h3,-⟩:=HC2.out.mk HM.out
 have hm:=(HKm.out.next Hv.out HC2.out).cell;have hp:=(HKp.out.next Hv.out HC2.out).cell
 go_wp2_with fail
 clear h0 h1 h2 h3 hm hp;have hg:=gturn_chain (s++⟨#[46,120]⟩) (size_plus2 s _ _ hs) 13 rfl HC2.out (HC2.out.mk HM.out) (by simp[takeCode,giveCode,joinCode,awayCode,eachCode,turnGo,waitGo,turnCode] <;> omega);refine hg.mono ?_;rintro e x3 ⟨rfl,C⟩;have HC3:=Lib.hid C;clear C hg
 obtain ⟨h0,h1,h2,h3,-⟩:=HC3.out.mk HM.out;have hm:=(HKm.out.next Hv.out HC3.out).cell;have hp:=(HKp.out.next Hv.out HC3.out).cell
 go_wp2_with fail
 clear h0 h1 h2 h3 hm hp;have hg:=gturn_chain (s++⟨#[46,121]⟩) (size_plus2 s _ _ hs) 13 rfl HC3.out (HC3.out.mk HM.out) (by simp[takeCode,giveCode,joinCode,awayCode,eachCode,turnGo,waitGo,turnCode] <;> omega);refine hg.mono ?_;rintro e x4 ⟨rfl,C⟩;have HC4:=Lib.hid C;clear C hg;go_wp2
 refine wp_region_held_drew (S:=fun W=>W.cell? ⟨w1.heap.size,0,none⟩=some (.pointer (some ⟨b,0,none⟩))∧W.cell? ⟨b,0,none⟩=some (.string (opStr 13))) (by kernel_rfl) ⟨(Mod.refl noF _).drew.cell (HKm.out.next Hv.out HC4.out).cell (fun e=>e),(Mod.refl noF _).drew.cell (HC4.out.mk HM.out).c0 (fun e=>e)⟩ (fun hHeld=>?_)
 iterate 8
  first|refine tk 0 (by decide +kernel) ?_|refine tk 1 (by decide +kernel) ?_|refine tk 2 (by decide +kernel) ?_|refine tk 3 (by decide +kernel) ?_|refine tk 4 (by decide +kernel) ?_|refine tk 5 (by decide +kernel) ?_|refine tk 6 (by decide +kernel) ?_|refine tk 7 (by decide +kernel) ?_
  apply Exists.intro;apply And.intro;(rw[List.getElem?_toArray];rfl);apply Exists.intro;refine ⟨by assumption,fun _ _ _ h=>h,?_,?_⟩
  ·refine Or.inl ⟨by rfl,?_⟩;intro w hSw;(try dsimp only at hSw);go_simp;(try rw[if_neg (by omega)]);try with_reducible rfl
  try simp only[Act.put,List.setIfInBounds_toArray,List.set_cons_zero,List.set_cons_succ]
 refine em_spine (items:=[⟨none,8,50⟩]) (E:=[⟨13,[],[],3,49⟩]) (r0:=44) (by kernel_rfl) (by kernel_rfl) (by kernel_rfl) (by rfl) ?lb5 (by rfl) (by rfl) ?len5 (fun w' l' C=>⟨(HKm.out.next Hv.out C).cell,(C.mk HM.out).c0⟩) (HC4.out.quiet (Mod.refl _ _).drew) (by kernel_rfl) ?_
 case lb5=>(intro e he hk;simp only[List.mem_cons,List.not_mem_nil,or_false]at he;rcases he with rfl <;> (first|exact absurd rfl hk|exact congrArg Value.string (rfl)))
 case len5=>(first|(simp[takeCode,giveCode,joinCode,awayCode,eachCode,turnGo,waitGo,turnCode] <;> omega)|(simp <;> omega))
 intro U x5 C hU;have u50:U 50=_:=hU 0 _ rfl
 simp only[spTmps,SpI.tmps,List.flatMap_cons,List.flatMap_nil,Option.map_some,Option.map_none,Option.toList_some,Option.toList_none,List.cons_append,List.nil_append,List.append_nil,patch,List.foldl_cons,List.foldl_nil,Act.put,List.setIfInBounds_toArray,List.set_cons_zero,List.set_cons_succ,u50]
 clear u50 hU hHeld;simp only[List.map_cons,List.map_nil,EmC.ins,List.getD_cons_zero,List.getD_cons_succ,List.getD_nil]at C;have HC5:=Lib.hid C;clear C;obtain ⟨h0,h1,h2,h3,-⟩:=HC5.out.mk HM.out;have hm:=(HKm.out.next Hv.out HC5.out).cell;have hp:=(HKp.out.next Hv.out HC5.out).cell
 go_wp2_with fail
 clear h0 h1 h2 h3 hm hp;have hg:=ggive_chain HC5.out (HC5.out.mk HM.out) (by simp[takeCode,giveCode,joinCode,awayCode,eachCode,turnGo,waitGo,turnCode] <;> omega) Hn.out hs;refine hg.mono ?_;rintro e x6 ⟨rfl,C⟩;have HC6:=Lib.hid C;clear C hg;obtain ⟨h0,h1,h2,h3,-⟩:=HC6.out.mk HM.out
 have hm:=(HKm.out.next Hv.out HC6.out).cell;have hp:=(HKp.out.next Hv.out HC6.out).cell;obtain ⟨v,ec,hv⟩:=HC6.out.made (w:=w) (by simp[Value.ownBlock]) Hm.out hb;have Hv:=Lib.hid hv;clear hv;go_wp2;go_ret2;exact ⟨v,rfl,by rw[←gwait2_eq];simpa[List.append_assoc]using Hv.out⟩
end
section
open Go.RowKit Qs Qh
variable {w0 w w1:World}{b o:Nat}{v0:Value}{l:List Instr}{br s:ByteArray}{fe jo co:Bool}{u:Value}{c:Nat}
theorem genter3_ok(s:ByteArray)(w:World)(hn:nameB s.data.toList=true)(hs:s.size≤4) :
  Calls Tryz.prog 75 #[.int .i64 3,.string s] w fun e w'=>∃v,e=.returned (.tuple #[v,.nilIface])∧Made (preC s.data.toList gc30) w v w':=by
 have Hn:=Lib.hid hn;clear hn
 go_enter Tryz.func75,Tryz.ntmps75
 go_wp2_with fail
 refine (begin3_ok s w Hn.out hs).mono ?_;rintro e x0 ⟨b,rfl,hm,hb,E,M⟩;have h3:=M.c3;have Hm:=Lib.hid hm;clear hm hb E M;go_wp2;go_ret2;exact ⟨_,rfl,InsRow.nil _ _,Hm.out.toBelow,by simp[Value.ownBlock]⟩
theorem gleave3_ok(s:ByteArray)(w:World)(hn:nameB s.data.toList=true)(hs:s.size≤4) :
  Calls Tryz.prog 76 #[.int .i64 3,.string s] w fun e w'=>∃v,e=.returned (.tuple #[v,.nilIface])∧Made (preC s.data.toList gc31) w v w':=by
 have Hn:=Lib.hid hn;clear hn
 go_enter Tryz.func76,Tryz.ntmps76
 go_wp2_with fail
 refine (begin3_ok s w Hn.out hs).mono ?_;rintro e x0 ⟨b,rfl,hm,hb,E,M⟩;have h3:=M.c3;have Hm:=Lib.hid hm;clear hm hb E M;go_wp2;go_ret2;exact ⟨_,rfl,InsRow.nil _ _,Hm.out.toBelow,by simp[Value.ownBlock]⟩
theorem grest3_ok(s:ByteArray)(w:World)(hn:nameB s.data.toList=true)(hs:s.size≤4) :
  Calls Tryz.prog 85 #[.int .i64 3,.string s] w fun e w'=>∃v,e=.returned (.tuple #[v,.nilIface])∧Made (preC s.data.toList gc32) w v w':=by
 have Hn:=Lib.hid hn;clear hn
 go_enter Tryz.func85,Tryz.ntmps85
 go_wp2_with fail
 refine (begin3_ok s w Hn.out hs).mono ?_;rintro e x0 ⟨b,rfl,hm,hb,E,M⟩;have HC:=Lib.hid (Chain.start E);have HM:=Lib.hid M;have Hm:=Lib.hid hm;clear hm E M;obtain ⟨h0,h1,h2,h3,-⟩:=HC.out.mk HM.out
 go_wp2_with fail
 refine (op3_chain (HC.out.quiet ((Mod.refl _ _).alloc _)) (by first|omega|simp) 6 _ rfl x0.heap.size 0 7 0 3 (by simp) (by simp) (by simp) (by simp)).mono ?_;clear h0 h1 h2 h3;rintro e x1 ⟨rfl,C⟩;have HC1:=Lib.hid C;clear C;obtain ⟨h0,h1,h2,h3,-⟩:=HC1.out.mk HM.out
 go_wp2_with fail
 refine (op3_chain (HC1.out.quiet ((Mod.refl _ _).alloc _)) (by simp[takeCode,giveCode,joinCode,awayCode,eachCode,turnGo,waitGo,turnCode] <;> omega) 7 _ rfl x1.heap.size 6 0 0 3 (by simp) (by simp) (by simp) (by simp)).mono ?_;clear h0 h1 h2 h3;rintro e x2 ⟨rfl,C⟩;have HC2:=Lib.hid C;clear C
 obtain ⟨h0,h1,h2,h3,-⟩:=HC2.out.mk HM.out
 go_wp2_with fail
 refine (op0_chain HC2.out (by simp[takeCode,giveCode,joinCode,awayCode,eachCode,turnGo,waitGo,turnCode] <;> omega) 12 _ rfl).mono ?_;clear h0 h1 h2 h3;rintro e x3 ⟨rfl,C⟩;have HC3:=Lib.hid C;clear C;obtain ⟨v,ec,hv⟩:=HC3.out.made (w:=w) (by simp[Value.ownBlock]) Hm.out hb;have Hv:=Lib.hid hv
 clear hv;go_wp2;go_ret2;exact ⟨v,rfl,by rw[←grest3_eq];simpa[List.append_assoc]using Hv.out⟩
theorem ggone3_ok(s:ByteArray)(w:World)(hn:nameB s.data.toList=true)(hs:s.size≤4) :
  Calls Tryz.prog 48 #[.int .i64 3,.string s] w fun e w'=>∃v,e=.returned (.tuple #[v,.nilIface])∧Made (preC s.data.toList gc33) w v w':=by
 have Hn:=Lib.hid hn;clear hn
 go_enter Tryz.func48,Tryz.ntmps48
 go_wp2_with fail
 refine (begin3_ok s w Hn.out hs).mono ?_;rintro e x0 ⟨b,rfl,hm,hb,E,M⟩;have HC:=Lib.hid (Chain.start E);have HM:=Lib.hid M;have Hm:=Lib.hid hm;clear hm E M;obtain ⟨h0,h1,h2,h3,-⟩:=HC.out.mk HM.out
 go_wp2_with fail
 clear h0 h1 h2 h3;have hg:=gaway_chain HC.out (by first|omega|simp);refine hg.mono ?_;rintro e x1 ⟨rfl,C⟩;have HC1:=Lib.hid C;clear C hg;obtain ⟨v,ec,hv⟩:=HC1.out.made (w:=w) (by simp[Value.ownBlock]) Hm.out hb;have Hv:=Lib.hid hv;clear hv;go_wp2;go_ret2
 exact ⟨v,rfl,by rw[←ggone3_eq];simpa[List.append_assoc]using Hv.out⟩
theorem gwait3_ok(s:ByteArray)(w:World)(hn:nameB s.data.toList=true)(hs:s.size≤4) :
  Calls Tryz.prog 86 #[.int .i64 3,.string s] w fun e w'=>∃v,e=.returned (.tuple #[v,.nilIface])∧Made (preC s.data.toList gc34) w v w':=by
 have Hn:=Lib.hid hn;clear hn
 go_enter Tryz.func86,Tryz.ntmps86
 go_wp2_with fail
 refine (begin3_ok s _ Hn.out hs).mono ?_;rintro e w1 ⟨b,rfl,hm,hb0,E,M⟩;have hsw:=hm.size;have hlb:=E.lt
 have hb1:w.heap.size<b:=by simp at hb0;omega
 have hp0:w1.cell? ⟨w.heap.size,0,none⟩=some (.string s):=hm.cell (by simp) (fun e=>e);have hq:Mod noF w1 (w1.alloc (.cells #[.pointer (some ⟨b,0,none⟩)] 135)):=(Mod.refl _ _).alloc _;have E1:=E.quiet hq;have HC:=Lib.hid (Chain.start E1);have HM:=Lib.hid (M.quiet hq)
 have Hm:=Lib.hid ((((Mod.refl noF w).alloc _).trans0 hm).trans0 hq);have Hv:=Lib.hid E1.cell
 have hcp:w.heap.size<w1.heap.size:=by simp at hsw;omega
 have hrow:∀(c:Nat) v,(w1.alloc (.cells #[.pointer (some ⟨b,0,none⟩)] 135)).cell? ⟨b,4,none⟩=some v→v.ownBlock≠some c:=fun c v h e=>by
  rw[E1.cell]at h;cases h;cases e
 have HKm:=Lib.hid (⟨by simp,by simp,by omega,hrow _⟩:Cap (w1.alloc (.cells #[.pointer (some ⟨b,0,none⟩)] 135)) b w1.heap.size (.pointer (some ⟨b,0,none⟩)))
 have HKp:=Lib.hid (⟨hq.cell hp0 (fun e=>e),by simp;omega,by omega,hrow _⟩:Cap (w1.alloc (.cells #[.pointer (some ⟨b,0,none⟩)] 135)) b w.heap.size (.string s))
 have hb:w.heap.size≤b:=by omega
 clear hm E M E1 hq hp0 hrow hsw hb0 hb1;obtain ⟨h0,h1,h2,h3,-⟩:=HC.out.mk HM.out;have hm:=(HKm.out.next Hv.out HC.out).cell;have hp:=(HKp.out.next Hv.out HC.out).cell
 go_wp2_with fail
 clear h0 h1 h2 h3 hm hp;have hg:=gaway_chain HC.out (by first|omega|simp);refine hg.mono ?_;rintro e x1 ⟨rfl,C⟩;have HC1:=Lib.hid C;clear C hg;obtain ⟨h0,h1,h2,h3,-⟩:=HC1.out.mk HM.out;have hm:=(HKm.out.next Hv.out HC1.out).cell;have hp:=(HKp.out.next Hv.out HC1.out).cell
 go_wp2_with fail
 clear h0 h1 h2 h3 hm hp;have hg:=gtake_chain HC1.out (HC1.out.mk HM.out) (by simp[takeCode,giveCode,joinCode,awayCode,eachCode,turnGo,waitGo,turnCode] <;> omega) Hn.out hs;refine hg.mono ?_;rintro e x2 ⟨rfl,C⟩;have HC2:=Lib.hid C;clear C hg;obtain ⟨h0,h1,h2,h3,-⟩:=HC2.out.mk HM.out
 have hm:=(HKm.out.next Hv.out HC2.out).cell;have hp:=(HKp.out.next Hv.out HC2.out).cell
 go_wp2_with fail
 refine (op3_chain (HC2.out.quiet ((Mod.refl _ _).alloc _)) (by simp[takeCode,giveCode,joinCode,awayCode,eachCode,turnGo,waitGo,turnCode] <;> omega) 6 _ rfl x2.heap.size 0 7 0 3 (by simp) (by simp) (by simp) (by simp)).mono ?_;clear h0 h1 h2 h3 hm hp;rintro e x3 ⟨rfl,C⟩;have HC3:=Lib.hid C;clear C
 obtain ⟨h0,h1,h2,h3,-⟩:=HC3.out.mk HM.out;have hm:=(HKm.out.next Hv.out HC3.out).cell;have hp:=(HKp.out.next Hv.out HC3.out).cell
 go_wp2_with fail
 refine (op2_chain (HC3.out.quiet ((Mod.refl _ _).alloc _)) (by simp[takeCode,giveCode,joinCode,awayCode,eachCode,turnGo,waitGo,turnCode] <;> omega) 0 _ rfl x3.heap.size 1 2 2 (by simp) (by simp) (by simp)).mono ?_;clear h0 h1 h2 h3 hm hp;rintro e x4 ⟨rfl,C⟩;have HC4:=Lib.hid C;clear C
 obtain ⟨h0,h1,h2,h3,-⟩:=HC4.out.mk HM.out;have hm:=(HKm.out.next Hv.out HC4.out).cell;have hp:=(HKp.out.next Hv.out HC4.out).cell
 go_wp2_with fail
 refine (op3_chain (HC4.out.quiet ((Mod.refl _ _).alloc _)) (by simp[takeCode,giveCode,joinCode,awayCode,eachCode,turnGo,waitGo,turnCode] <;> omega) 2 _ rfl x4.heap.size 0 0 1 3 (by simp) (by simp) (by simp) (by simp)).mono ?_;clear h0 h1 h2 h3 hm hp;rintro e x5 ⟨rfl,C⟩;have HC5:=Lib.hid C;clear C
 obtain ⟨h0,h1,h2,h3,-⟩:=HC5.out.mk HM.out;have hm:=(HKm.out.next Hv.out HC5.out).cell;have hp:=(HKp.out.next Hv.out HC5.out).cell
 go_wp2_with fail
 refine (op3_chain (HC5.out.quiet ((Mod.refl _ _).alloc _)) (by simp[takeCode,giveCode,joinCode,awayCode,eachCode,turnGo,waitGo,turnCode] <;> omega) 7 _ rfl x5.heap.size 7 0 0 3 (by simp) (by simp) (by simp) (by simp)).mono ?_;clear h0 h1 h2 h3 hm hp;rintro e x6 ⟨rfl,C⟩;have HC6:=Lib.hid C;clear C
 obtain ⟨h0,h1,h2,h3,-⟩:=HC6.out.mk HM.out;have hm:=(HKm.out.next Hv.out HC6.out).cell;have hp:=(HKp.out.next Hv.out HC6.out).cell
 go_wp2_with fail
 refine (op0_chain HC6.out (by simp[takeCode,giveCode,joinCode,awayCode,eachCode,turnGo,waitGo,turnCode] <;> omega) 12 _ rfl).mono ?_;clear h0 h1 h2 h3 hm hp;rintro e x7 ⟨rfl,C⟩;have HC7:=Lib.hid C;clear C;obtain ⟨h0,h1,h2,h3,-⟩:=HC7.out.mk HM.out;have hm:=(HKm.out.next Hv.out HC7.out).cell
 have hp:=(HKp.out.next Hv.out HC7.out).cell
 go_wp2_with fail
 clear h0 h1 h2 h3 hm hp;have hg:=eachWait_chain (s++⟨#[46,120]⟩) (size_plus2 s _ _ hs) HC7.out (HKm.out.next Hv.out HC7.out) (HKp.out.next Hv.out HC7.out) (by omega) (by simp[takeCode,giveCode,joinCode,awayCode,eachCode,turnGo,waitGo,turnCode] <;> omega);refine hg.mono ?_;rintro e x8 ⟨rfl,C⟩
 have HC8:=Lib.hid C;clear C hg;obtain ⟨h0,h1,h2,h3,-⟩:=HC8.out.mk HM.out;have hm:=(HKm.out.next Hv.out HC8.out).cell;have hp:=(HKp.out.next Hv.out HC8.out).cell
 go_wp2_with fail
 clear h0 h1 h2 h3 hm hp;have hg:=ggive_chain HC8.out (HC8.out.mk HM.out) (by simp[takeCode,giveCode,joinCode,awayCode,eachCode,turnGo,waitGo,turnCode] <;> omega) Hn.out hs;refine hg.mono ?_;rintro e x9 ⟨rfl,C⟩;have HC9:=Lib.hid C;clear C hg;obtain ⟨h0,h1,h2,h3,-⟩:=HC9.out.mk HM.out
 have hm:=(HKm.out.next Hv.out HC9.out).cell;have hp:=(HKp.out.next Hv.out HC9.out).cell
 go_wp2_with fail
 refine (op3_chain (HC9.out.quiet ((Mod.refl _ _).alloc _)) (by simp[takeCode,giveCode,joinCode,awayCode,eachCode,turnGo,waitGo,turnCode] <;> omega) 6 _ rfl x9.heap.size 0 7 0 3 (by simp) (by simp) (by simp) (by simp)).mono ?_;clear h0 h1 h2 h3 hm hp;rintro e x10 ⟨rfl,C⟩;have HC10:=Lib.hid C;clear C
 obtain ⟨h0,h1,h2,h3,-⟩:=HC10.out.mk HM.out;have hm:=(HKm.out.next Hv.out HC10.out).cell;have hp:=(HKp.out.next Hv.out HC10.out).cell
 go_wp2_with fail
 refine (op3_chain (HC10.out.quiet ((Mod.refl _ _).alloc _)) (by simp[takeCode,giveCode,joinCode,awayCode,eachCode,turnGo,waitGo,turnCode] <;> omega) 7 _ rfl x10.heap.size 6 0 0 3 (by simp) (by simp) (by simp) (by simp)).mono ?_;clear h0 h1 h2 h3 hm hp;rintro e x11 ⟨rfl,C⟩;have HC11:=Lib.hid C
 clear C;obtain ⟨h0,h1,h2,h3,-⟩:=HC11.out.mk HM.out;have hm:=(HKm.out.next Hv.out HC11.out).cell;have hp:=(HKp.out.next Hv.out HC11.out).cell
 go_wp2_with fail
 refine (op0_chain HC11.out (by simp[takeCode,giveCode,joinCode,awayCode,eachCode,turnGo,waitGo,turnCode] <;> omega) 12 _ rfl).mono ?_;clear h0 h1 h2 h3 hm hp;rintro e x12 ⟨rfl,C⟩;have HC12:=Lib.hid C;clear C;obtain ⟨h0,h1,h2,h3,-⟩:=HC12.out.mk HM.out;have hm:=(HKm.out.next Hv.out HC12.out).cell
 have hp:=(HKp.out.next Hv.out HC12.out).cell;obtain ⟨v,ec,hv⟩:=HC12.out.made (w:=w) (by simp[Value.ownBlock]) Hm.out hb;have Hv:=Lib.hid hv;clear hv;go_wp2;go_ret2;exact ⟨v,rfl,by rw[←gwait3_eq];simpa[List.append_assoc]using Hv.out⟩
end
section
open Go.RowKit Qs Qh
variable {w0 w w1:World}{b o:Nat}{v0:Value}{l:List Instr}{br s:ByteArray}{fe jo co:Bool}{u:Value}{c:Nat}
theorem genter4_ok(s:ByteArray)(w:World)(hn:nameB s.data.toList=true)(hs:s.size≤4) :
  Calls Tryz.prog 75 #[.int .i64 4,.string s] w fun e w'=>∃v,e=.returned (.tuple #[v,.nilIface])∧Made (preC s.data.toList gc40) w v w':=by
 have Hn:=Lib.hid hn;clear hn
 go_enter Tryz.func75,Tryz.ntmps75
 go_wp2_with fail
 refine (begin4_ok s w Hn.out hs).mono ?_;rintro e x0 ⟨b,rfl,hm,hb,E,M⟩;have HC:=Lib.hid (Chain.start E);have HM:=Lib.hid M;have Hm:=Lib.hid hm;clear hm E M;obtain ⟨h0,h1,h2,h3,-⟩:=HC.out.mk HM.out
 go_wp2_with fail
 clear h0 h1 h2 h3;have hg:=gjoin_chain HC.out (HC.out.mk HM.out) (by first|omega|simp) Hn.out hs;refine hg.mono ?_;rintro e x1 ⟨rfl,C⟩;have HC1:=Lib.hid C;clear C hg;obtain ⟨h0,h1,h2,h3,-⟩:=HC1.out.mk HM.out
 go_wp2_with fail
 refine (op3_chain (HC1.out.quiet ((Mod.refl _ _).alloc _)) (by simp[takeCode,giveCode,joinCode,awayCode,eachCode,turnGo,waitGo,turnCode] <;> omega) 6 _ rfl x1.heap.size 0 6 0 3 (by simp) (by simp) (by simp) (by simp)).mono ?_;clear h0 h1 h2 h3;rintro e x2 ⟨rfl,C⟩;have HC2:=Lib.hid C;clear C
 obtain ⟨h0,h1,h2,h3,-⟩:=HC2.out.mk HM.out
 go_wp2_with fail
 refine (op2_chain (HC2.out.quiet ((Mod.refl _ _).alloc _)) (by simp[takeCode,giveCode,joinCode,awayCode,eachCode,turnGo,waitGo,turnCode] <;> omega) 0 _ rfl x2.heap.size 1 255 2 (by simp) (by simp) (by simp)).mono ?_;clear h0 h1 h2 h3;rintro e x3 ⟨rfl,C⟩;have HC3:=Lib.hid C;clear C
 obtain ⟨h0,h1,h2,h3,-⟩:=HC3.out.mk HM.out
 go_wp2_with fail
 refine (op3_chain (HC3.out.quiet ((Mod.refl _ _).alloc _)) (by simp[takeCode,giveCode,joinCode,awayCode,eachCode,turnGo,waitGo,turnCode] <;> omega) 4 _ rfl x3.heap.size 1 0 1 3 (by simp) (by simp) (by simp) (by simp)).mono ?_;clear h0 h1 h2 h3;rintro e x4 ⟨rfl,C⟩;have HC4:=Lib.hid C;clear C
 obtain ⟨h0,h1,h2,h3,-⟩:=HC4.out.mk HM.out
 go_wp2_with fail
 refine (to1_chain (HC4.out.quiet ((Mod.refl _ _).alloc _)) (by simp[takeCode,giveCode,joinCode,awayCode,eachCode,turnGo,waitGo,turnCode] <;> omega) 14 _ rfl (s.data.toList++[46,97]) _ (bytes_cat s _) x4.heap.size 1 1 (by simp) (by simp)).mono ?_;clear h0 h1 h2 h3;rintro e x5 ⟨rfl,C⟩
 have HC5:=Lib.hid C;clear C;obtain ⟨h0,h1,h2,h3,-⟩:=HC5.out.mk HM.out
 go_wp2_with fail
 refine (op2_chain (HC5.out.quiet ((Mod.refl _ _).alloc _)) (by simp[takeCode,giveCode,joinCode,awayCode,eachCode,turnGo,waitGo,turnCode] <;> omega) 0 _ rfl x5.heap.size 1 1 2 (by simp) (by simp) (by simp)).mono ?_;clear h0 h1 h2 h3;rintro e x6 ⟨rfl,C⟩;have HC6:=Lib.hid C;clear C
 obtain ⟨h0,h1,h2,h3,-⟩:=HC6.out.mk HM.out
 go_wp2_with fail
 refine (op3_chain (HC6.out.quiet ((Mod.refl _ _).alloc _)) (by simp[takeCode,giveCode,joinCode,awayCode,eachCode,turnGo,waitGo,turnCode] <;> omega) 2 _ rfl x6.heap.size 0 0 1 3 (by simp) (by simp) (by simp) (by simp)).mono ?_;clear h0 h1 h2 h3;rintro e x7 ⟨rfl,C⟩;have HC7:=Lib.hid C;clear C
 obtain ⟨h0,h1,h2,h3,-⟩:=HC7.out.mk HM.out
 go_wp2_with fail
 refine (op3_chain (HC7.out.quiet ((Mod.refl _ _).alloc _)) (by simp[takeCode,giveCode,joinCode,awayCode,eachCode,turnGo,waitGo,turnCode] <;> omega) 7 _ rfl x7.heap.size 6 0 0 3 (by simp) (by simp) (by simp) (by simp)).mono ?_;clear h0 h1 h2 h3;rintro e x8 ⟨rfl,C⟩;have HC8:=Lib.hid C;clear C
 obtain ⟨h0,h1,h2,h3,-⟩:=HC8.out.mk HM.out
 go_wp2_with fail
 refine (to0_chain HC8.out (by simp[takeCode,giveCode,joinCode,awayCode,eachCode,turnGo,waitGo,turnCode] <;> omega) 16 _ rfl (s.data.toList++[46,98]) _ (bytes_cat s _)).mono ?_;clear h0 h1 h2 h3;rintro e x9 ⟨rfl,C⟩;have HC9:=Lib.hid C;clear C;obtain ⟨h0,h1,h2,h3,-⟩:=HC9.out.mk HM.out
 go_wp2_with fail
 refine (label_chain HC9.out (by simp[takeCode,giveCode,joinCode,awayCode,eachCode,turnGo,waitGo,turnCode] <;> omega) (s.data.toList++[46,97]) _ (bytes_cat s _)).mono ?_;clear h0 h1 h2 h3;rintro e x10 ⟨rfl,C⟩;have HC10:=Lib.hid C;clear C;obtain ⟨h0,h1,h2,h3,-⟩:=HC10.out.mk HM.out
 go_wp2_with fail
 refine (op3_chain (HC10.out.quiet ((Mod.refl _ _).alloc _)) (by simp[takeCode,giveCode,joinCode,awayCode,eachCode,turnGo,waitGo,turnCode] <;> omega) 6 _ rfl x10.heap.size 0 7 0 3 (by simp) (by simp) (by simp) (by simp)).mono ?_;clear h0 h1 h2 h3;rintro e x11 ⟨rfl,C⟩;have HC11:=Lib.hid C;clear C
 obtain ⟨h0,h1,h2,h3,-⟩:=HC11.out.mk HM.out
 go_wp2_with fail
 refine (op3_chain (HC11.out.quiet ((Mod.refl _ _).alloc _)) (by simp[takeCode,giveCode,joinCode,awayCode,eachCode,turnGo,waitGo,turnCode] <;> omega) 7 _ rfl x11.heap.size 6 0 0 3 (by simp) (by simp) (by simp) (by simp)).mono ?_;clear h0 h1 h2 h3;rintro e x12 ⟨rfl,C⟩;have HC12:=Lib.hid C;clear C
 obtain ⟨h0,h1,h2,h3,-⟩:=HC12.out.mk HM.out
 go_wp2_with fail
 refine (op0_chain HC12.out (by simp[takeCode,giveCode,joinCode,awayCode,eachCode,turnGo,waitGo,turnCode] <;> omega) 12 _ rfl).mono ?_;clear h0 h1 h2 h3;rintro e x13 ⟨rfl,C⟩;have HC13:=Lib.hid C;clear C;obtain ⟨h0,h1,h2,h3,-⟩:=HC13.out.mk HM.out
 go_wp2_with fail
 refine (label_chain HC13.out (by simp[takeCode,giveCode,joinCode,awayCode,eachCode,turnGo,waitGo,turnCode] <;> omega) (s.data.toList++[46,98]) _ (bytes_cat s _)).mono ?_;clear h0 h1 h2 h3;rintro e x14 ⟨rfl,C⟩;have HC14:=Lib.hid C;clear C
 obtain ⟨v,ec,hv⟩:=HC14.out.made (w:=w) (by simp[Value.ownBlock]) Hm.out hb;have Hv:=Lib.hid hv;clear hv;go_wp2;go_ret2;exact ⟨v,rfl,by rw[←genter4_eq];simpa[List.append_assoc]using Hv.out⟩
theorem gleave4_ok(s:ByteArray)(w:World)(hn:nameB s.data.toList=true)(hs:s.size≤4) :
  Calls Tryz.prog 76 #[.int .i64 4,.string s] w fun e w'=>∃v,e=.returned (.tuple #[v,.nilIface])∧Made (preC s.data.toList gc41) w v w':=by
 have Hn:=Lib.hid hn;clear hn
 go_enter Tryz.func76,Tryz.ntmps76
 go_wp2_with fail
 refine (begin4_ok s w Hn.out hs).mono ?_;rintro e x0 ⟨b,rfl,hm,hb,E,M⟩;have HC:=Lib.hid (Chain.start E);have HM:=Lib.hid M;have Hm:=Lib.hid hm;clear hm E M;obtain ⟨h0,h1,h2,h3,-⟩:=HC.out.mk HM.out
 go_wp2_with fail
 refine (op0_chain HC.out (by first|omega|simp) 12 _ rfl).mono ?_;clear h0 h1 h2 h3;rintro e x1 ⟨rfl,C⟩;have HC1:=Lib.hid C;clear C;obtain ⟨h0,h1,h2,h3,-⟩:=HC1.out.mk HM.out
 go_wp2_with fail
 refine (op3_chain (HC1.out.quiet ((Mod.refl _ _).alloc _)) (by simp[takeCode,giveCode,joinCode,awayCode,eachCode,turnGo,waitGo,turnCode] <;> omega) 6 _ rfl x1.heap.size 0 6 0 3 (by simp) (by simp) (by simp) (by simp)).mono ?_;clear h0 h1 h2 h3;rintro e x2 ⟨rfl,C⟩;have HC2:=Lib.hid C;clear C
 obtain ⟨h0,h1,h2,h3,-⟩:=HC2.out.mk HM.out
 go_wp2_with fail
 refine (op2_chain (HC2.out.quiet ((Mod.refl _ _).alloc _)) (by simp[takeCode,giveCode,joinCode,awayCode,eachCode,turnGo,waitGo,turnCode] <;> omega) 0 _ rfl x2.heap.size 1 1 2 (by simp) (by simp) (by simp)).mono ?_;clear h0 h1 h2 h3;rintro e x3 ⟨rfl,C⟩;have HC3:=Lib.hid C;clear C
 obtain ⟨h0,h1,h2,h3,-⟩:=HC3.out.mk HM.out
 go_wp2_with fail
 refine (op3_chain (HC3.out.quiet ((Mod.refl _ _).alloc _)) (by simp[takeCode,giveCode,joinCode,awayCode,eachCode,turnGo,waitGo,turnCode] <;> omega) 3 _ rfl x3.heap.size 0 0 1 3 (by simp) (by simp) (by simp) (by simp)).mono ?_;clear h0 h1 h2 h3;rintro e x4 ⟨rfl,C⟩;have HC4:=Lib.hid C;clear C
 obtain ⟨h0,h1,h2,h3,-⟩:=HC4.out.mk HM.out
 go_wp2_with fail
 refine (op3_chain (HC4.out.quiet ((Mod.refl _ _).alloc _)) (by simp[takeCode,giveCode,joinCode,awayCode,eachCode,turnGo,waitGo,turnCode] <;> omega) 7 _ rfl x4.heap.size 6 0 0 3 (by simp) (by simp) (by simp) (by simp)).mono ?_;clear h0 h1 h2 h3;rintro e x5 ⟨rfl,C⟩;have HC5:=Lib.hid C;clear C
 obtain ⟨v,ec,hv⟩:=HC5.out.made (w:=w) (by simp[Value.ownBlock]) Hm.out hb;have Hv:=Lib.hid hv;clear hv;go_wp2;go_ret2;exact ⟨v,rfl,by rw[←gleave4_eq];simpa[List.append_assoc]using Hv.out⟩
theorem grest4_ok(s:ByteArray)(w:World)(hn:nameB s.data.toList=true)(hs:s.size≤4) :
  Calls Tryz.prog 85 #[.int .i64 4,.string s] w fun e w'=>∃v,e=.returned (.tuple #[v,.nilIface])∧Made (preC s.data.toList gc42) w v w':=by
 have Hn:=Lib.hid hn;clear hn
 go_enter Tryz.func85,Tryz.ntmps85
 go_wp2_with fail
 refine (begin4_ok s w Hn.out hs).mono ?_;rintro e x0 ⟨b,rfl,hm,hb,E,M⟩;have h3:=M.c3;have Hm:=Lib.hid hm;clear hm hb E M;go_wp2;go_ret2;exact ⟨_,rfl,InsRow.nil _ _,Hm.out.toBelow,by simp[Value.ownBlock]⟩
theorem ggone4_ok(s:ByteArray)(w:World)(hn:nameB s.data.toList=true)(hs:s.size≤4) :
  Calls Tryz.prog 48 #[.int .i64 4,.string s] w fun e w'=>∃v,e=.returned (.tuple #[v,.nilIface])∧Made (preC s.data.toList gc43) w v w':=by
 have Hn:=Lib.hid hn;clear hn
 go_enter Tryz.func48,Tryz.ntmps48
 go_wp2_with fail
 refine (begin4_ok s w Hn.out hs).mono ?_;rintro e x0 ⟨b,rfl,hm,hb,E,M⟩;have h3:=M.c3;have Hm:=Lib.hid hm;clear hm hb E M;go_wp2;go_ret2;exact ⟨_,rfl,InsRow.nil _ _,Hm.out.toBelow,by simp[Value.ownBlock]⟩
theorem gwait4_ok(s:ByteArray)(w:World)(hn:nameB s.data.toList=true)(hs:s.size≤4) :
  Calls Tryz.prog 86 #[.int .i64 4,.string s] w fun e w'=>∃v,e=.returned (.tuple #[v,.nilIface])∧Made (preC s.data.toList gc44) w v w':=by
 have Hn:=Lib.hid hn;clear hn
 go_enter Tryz.func86,Tryz.ntmps86
 go_wp2_with fail
 refine (begin4_ok s _ Hn.out hs).mono ?_;rintro e w1 ⟨b,rfl,hm,hb0,E,M⟩;have hsw:=hm.size;have hlb:=E.lt
 have hb1:w.heap.size<b:=by simp at hb0;omega
 have hp0:w1.cell? ⟨w.heap.size,0,none⟩=some (.string s):=hm.cell (by simp) (fun e=>e);have hq:Mod noF w1 (w1.alloc (.cells #[.pointer (some ⟨b,0,none⟩)] 135)):=(Mod.refl _ _).alloc _;have E1:=E.quiet hq;have HC:=Lib.hid (Chain.start E1);have HM:=Lib.hid (M.quiet hq)
 have Hm:=Lib.hid ((((Mod.refl noF w).alloc _).trans0 hm).trans0 hq);have Hv:=Lib.hid E1.cell
 have hcp:w.heap.size<w1.heap.size:=by simp at hsw;omega
 have hrow:∀(c:Nat) v,(w1.alloc (.cells #[.pointer (some ⟨b,0,none⟩)] 135)).cell? ⟨b,4,none⟩=some v→v.ownBlock≠some c:=fun c v h e=>by
  rw[E1.cell]at h;cases h;cases e
 have HKm:=Lib.hid (⟨by simp,by simp,by omega,hrow _⟩:Cap (w1.alloc (.cells #[.pointer (some ⟨b,0,none⟩)] 135)) b w1.heap.size (.pointer (some ⟨b,0,none⟩)))
 have HKp:=Lib.hid (⟨hq.cell hp0 (fun e=>e),by simp;omega,by omega,hrow _⟩:Cap (w1.alloc (.cells #[.pointer (some ⟨b,0,none⟩)] 135)) b w.heap.size (.string s))
 have hb:w.heap.size≤b:=by omega
 clear hm E M E1 hq hp0 hrow hsw hb0 hb1;obtain ⟨h0,h1,h2,h3,-⟩:=HC.out.mk HM.out;have hm:=(HKm.out.next Hv.out HC.out).cell;have hp:=(HKp.out.next Hv.out HC.out).cell;go_wp2;clear h0 h1 h2 h3 hm hp;go_wp2
 refine wp_region_held_drew (S:=fun W=>W.cell? ⟨w1.heap.size,0,none⟩=some (.pointer (some ⟨b,0,none⟩))∧W.cell? ⟨b,0,none⟩=some (.string (opStr 12))) (by kernel_rfl) ⟨(Mod.refl noF _).drew.cell (HKm.out.next Hv.out HC.out).cell (fun e=>e),(Mod.refl noF _).drew.cell (HC.out.mk HM.out).c0 (fun e=>e)⟩ (fun hHeld=>?_)
 iterate 8
  first|refine tk 0 (by decide +kernel) ?_|refine tk 1 (by decide +kernel) ?_|refine tk 2 (by decide +kernel) ?_|refine tk 3 (by decide +kernel) ?_|refine tk 4 (by decide +kernel) ?_|refine tk 5 (by decide +kernel) ?_|refine tk 6 (by decide +kernel) ?_|refine tk 7 (by decide +kernel) ?_
  apply Exists.intro;apply And.intro;(rw[List.getElem?_toArray];rfl);apply Exists.intro;refine ⟨by assumption,fun _ _ _ h=>h,?_,?_⟩
  ·refine Or.inl ⟨by rfl,?_⟩;intro w hSw;(try dsimp only at hSw);go_simp;(try rw[if_neg (by omega)]);try with_reducible rfl
  try simp only[Act.put,List.setIfInBounds_toArray,List.set_cons_zero,List.set_cons_succ]
 refine em_spine (items:=[⟨none,8,31⟩]) (E:=[⟨12,[],[],3,30⟩]) (r0:=25) (by kernel_rfl) (by kernel_rfl) (by kernel_rfl) (by rfl) ?lb1 (by rfl) (by rfl) ?len1 (fun w' l' C=>⟨(HKm.out.next Hv.out C).cell,(C.mk HM.out).c0⟩) (HC.out.quiet (Mod.refl _ _).drew) (by kernel_rfl) ?_
 case lb1=>(intro e he hk;simp only[List.mem_cons,List.not_mem_nil,or_false]at he;rcases he with rfl <;> (first|exact absurd rfl hk|exact congrArg Value.string (rfl)))
 case len1=>(first|(simp[takeCode,giveCode,joinCode,awayCode,eachCode,turnGo,waitGo,turnCode] <;> omega)|(simp <;> omega))
 intro U x1 C hU;have u31:U 31=_:=hU 0 _ rfl
 simp only[spTmps,SpI.tmps,List.flatMap_cons,List.flatMap_nil,Option.map_some,Option.map_none,Option.toList_some,Option.toList_none,List.cons_append,List.nil_append,List.append_nil,patch,List.foldl_cons,List.foldl_nil,Act.put,List.setIfInBounds_toArray,List.set_cons_zero,List.set_cons_succ,u31]
 clear u31 hU hHeld;simp only[List.map_cons,List.map_nil,EmC.ins,List.getD_cons_zero,List.getD_cons_succ,List.getD_nil]at C;have HC1:=Lib.hid C;clear C;obtain ⟨h0,h1,h2,h3,-⟩:=HC1.out.mk HM.out;have hm:=(HKm.out.next Hv.out HC1.out).cell;have hp:=(HKp.out.next Hv.out HC1.out).cell
 go_wp2_with fail
 clear h0 h1 h2 h3 hm hp;have hg:=gtake_chain HC1.out (HC1.out.mk HM.out) (by simp[takeCode,giveCode,joinCode,awayCode,eachCode,turnGo,waitGo,turnCode] <;> omega) Hn.out hs;refine hg.mono ?_;rintro e x2 ⟨rfl,C⟩;have HC2:=Lib.hid C;clear C hg;obtain ⟨h0,h1,h2,h3,-⟩:=HC2.out.mk HM.out
 have hm:=(HKm.out.next Hv.out HC2.out).cell;have hp:=(HKp.out.next Hv.out HC2.out).cell
 go_wp2_with fail
 clear h0 h1 h2 h3 hm hp;have hg:=gturn_chain (s++⟨#[46,120]⟩) (size_plus2 s _ _ hs) 12 rfl HC2.out (HC2.out.mk HM.out) (by simp[takeCode,giveCode,joinCode,awayCode,eachCode,turnGo,waitGo,turnCode] <;> omega);refine hg.mono ?_;rintro e x3 ⟨rfl,C⟩;have HC3:=Lib.hid C;clear C hg
 obtain ⟨h0,h1,h2,h3,-⟩:=HC3.out.mk HM.out;have hm:=(HKm.out.next Hv.out HC3.out).cell;have hp:=(HKp.out.next Hv.out HC3.out).cell
 go_wp2_with fail
 clear h0 h1 h2 h3 hm hp;have hg:=gturn_chain (s++⟨#[46,121]⟩) (size_plus2 s _ _ hs) 12 rfl HC3.out (HC3.out.mk HM.out) (by simp[takeCode,giveCode,joinCode,awayCode,eachCode,turnGo,waitGo,turnCode] <;> omega);refine hg.mono ?_;rintro e x4 ⟨rfl,C⟩;have HC4:=Lib.hid C;clear C hg;go_wp2
 refine wp_region_held_drew (S:=fun W=>W.cell? ⟨w1.heap.size,0,none⟩=some (.pointer (some ⟨b,0,none⟩))∧W.cell? ⟨b,0,none⟩=some (.string (opStr 12))) (by kernel_rfl) ⟨(Mod.refl noF _).drew.cell (HKm.out.next Hv.out HC4.out).cell (fun e=>e),(Mod.refl noF _).drew.cell (HC4.out.mk HM.out).c0 (fun e=>e)⟩ (fun hHeld=>?_)
 iterate 8
  first|refine tk 0 (by decide +kernel) ?_|refine tk 1 (by decide +kernel) ?_|refine tk 2 (by decide +kernel) ?_|refine tk 3 (by decide +kernel) ?_|refine tk 4 (by decide +kernel) ?_|refine tk 5 (by decide +kernel) ?_|refine tk 6 (by decide +kernel) ?_|refine tk 7 (by decide +kernel) ?_
  apply Exists.intro;apply And.intro;(rw[List.getElem?_toArray];rfl);apply Exists.intro;refine ⟨by assumption,fun _ _ _ h=>h,?_,?_⟩
  ·refine Or.inl ⟨by rfl,?_⟩;intro w hSw;(try dsimp only at hSw);go_simp;(try rw[if_neg (by omega)]);try with_reducible rfl
  try simp only[Act.put,List.setIfInBounds_toArray,List.set_cons_zero,List.set_cons_succ]
 refine em_spine (items:=[⟨none,8,50⟩]) (E:=[⟨12,[],[],3,49⟩]) (r0:=44) (by kernel_rfl) (by kernel_rfl) (by kernel_rfl) (by rfl) ?lb5 (by rfl) (by rfl) ?len5 (fun w' l' C=>⟨(HKm.out.next Hv.out C).cell,(C.mk HM.out).c0⟩) (HC4.out.quiet (Mod.refl _ _).drew) (by kernel_rfl) ?_
 case lb5=>(intro e he hk;simp only[List.mem_cons,List.not_mem_nil,or_false]at he;rcases he with rfl <;> (first|exact absurd rfl hk|exact congrArg Value.string (rfl)))
 case len5=>(first|(simp[takeCode,giveCode,joinCode,awayCode,eachCode,turnGo,waitGo,turnCode] <;> omega)|(simp <;> omega))
 intro U x5 C hU;have u50:U 50=_:=hU 0 _ rfl
 simp only[spTmps,SpI.tmps,List.flatMap_cons,List.flatMap_nil,Option.map_some,Option.map_none,Option.toList_some,Option.toList_none,List.cons_append,List.nil_append,List.append_nil,patch,List.foldl_cons,List.foldl_nil,Act.put,List.setIfInBounds_toArray,List.set_cons_zero,List.set_cons_succ,u50]
 clear u50 hU hHeld;simp only[List.map_cons,List.map_nil,EmC.ins,List.getD_cons_zero,List.getD_cons_succ,List.getD_nil]at C;have HC5:=Lib.hid C;clear C;obtain ⟨h0,h1,h2,h3,-⟩:=HC5.out.mk HM.out;have hm:=(HKm.out.next Hv.out HC5.out).cell;have hp:=(HKp.out.next Hv.out HC5.out).cell
 go_wp2_with fail
 clear h0 h1 h2 h3 hm hp;have hg:=ggive_chain HC5.out (HC5.out.mk HM.out) (by simp[takeCode,giveCode,joinCode,awayCode,eachCode,turnGo,waitGo,turnCode] <;> omega) Hn.out hs;refine hg.mono ?_;rintro e x6 ⟨rfl,C⟩;have HC6:=Lib.hid C;clear C hg;obtain ⟨h0,h1,h2,h3,-⟩:=HC6.out.mk HM.out
 have hm:=(HKm.out.next Hv.out HC6.out).cell;have hp:=(HKp.out.next Hv.out HC6.out).cell;obtain ⟨v,ec,hv⟩:=HC6.out.made (w:=w) (by simp[Value.ownBlock]) Hm.out hb;have Hv:=Lib.hid hv;clear hv;go_wp2;go_ret2;exact ⟨v,rfl,by rw[←gwait4_eq];simpa[List.append_assoc]using Hv.out⟩
end
section
open Go.RowKit Qs Qh
def graceFn:Nat→Nat
 |0=>75
 |1=>76
 |2=>85
 |3=>48
 |_=>86
theorem gcode_lenAll:((List.range 5).all fun f=>(List.range 5).all fun k=>decide ((gcode f k).length≤70))=true:=by decide +kernel
theorem gcode_len{f j:Nat}(h4:f≤4)(hj:j<5):(gcode f j).length≤70:=by
 have h:=List.all_eq_true.1 (List.all_eq_true.1 gcode_lenAll f (List.mem_range.2 (by omega))) j (List.mem_range.2 hj)
 simpa using h
theorem grace_good{f j:Nat}(h1:1≤f)(h4:f≤4)(hj:j<5)(s:ByteArray)(w:World)(hn:nameB s.data.toList=true)(hs:s.size≤4) :
  Calls Tryz.prog (graceFn j) #[.int .i64 f,.string s] w fun e w'=>∃v,e=.returned (.tuple #[v,.nilIface])∧Made (preC s.data.toList (gcode f j)) w v w':=by
 match f,h1,h4,j,hj with
 |1,_,_,0,_=>exact genter1_ok s w hn hs
 |1,_,_,1,_=>exact gleave1_ok s w hn hs
 |1,_,_,2,_=>exact grest1_ok s w hn hs
 |1,_,_,3,_=>exact ggone1_ok s w hn hs
 |1,_,_,4,_=>exact gwait1_ok s w hn hs
 |2,_,_,0,_=>exact genter2_ok s w hn hs
 |2,_,_,1,_=>exact gleave2_ok s w hn hs
 |2,_,_,2,_=>exact grest2_ok s w hn hs
 |2,_,_,3,_=>exact ggone2_ok s w hn hs
 |2,_,_,4,_=>exact gwait2_ok s w hn hs
 |3,_,_,0,_=>exact genter3_ok s w hn hs
 |3,_,_,1,_=>exact gleave3_ok s w hn hs
 |3,_,_,2,_=>exact grest3_ok s w hn hs
 |3,_,_,3,_=>exact ggone3_ok s w hn hs
 |3,_,_,4,_=>exact gwait3_ok s w hn hs
 |4,_,_,0,_=>exact genter4_ok s w hn hs
 |4,_,_,1,_=>exact gleave4_ok s w hn hs
 |4,_,_,2,_=>exact grest4_ok s w hn hs
 |4,_,_,3,_=>exact ggone4_ok s w hn hs
 |4,_,_,4,_=>exact gwait4_ok s w hn hs
variable {N0 K:Nat}{big:Prop}{t nx:Int}{f:Nat}{w w1 w2:World}{b k:Nat}{v v1 v2:Value}{l:List Instr}
theorem part0_ok(HF:FreshH N0 big f t nx K)(hT:big→lowT N0)(h1:1≤f)(h4:f≤4)(M:MkA N0 big f t nx w b v l k)(hk:k<K)(hK:K≤120)(hl:l.length≤100000) :
  Calls Tryz.prog 47 #[.pointer (some ⟨b,0,none⟩),.func (.func 75) #[] #[]] w fun e w'=>e=.returned (.tuple #[])∧∃v',MkA N0 big f t nx w' b v' (l++preC (Qu.labN (k+1)) (gcode f 0)) (k+1)∧MkStep w b v w' v':=by
 have hfr:=fun W (hW:Mod noF w W)=>HF W b v l k hk (M.quiet hW);have hla:=(Qu.labN_facts (k+1) (by omega)).2;have hg:=fun W=>grace_good h1 h4 (show 0<5 by decide) ⟨(Qu.labN (k+1)).toArray⟩ W (by simpa using hla.2.1) (by simpa[ByteArray.size]using hla.1)
 have hlen:(preC (Qu.labN (k+1)) (gcode f 0)).length≤70:=by unfold preC;rw[List.length_map];exact gcode_len h4 (by decide)
 have Hlen:=Lib.hid hlen;simp only at hg;unfold graceFn at hg;generalize hlb:(⟨(Qu.labN (k+1)).toArray⟩:ByteArray)=lb at *;generalize preC (Qu.labN (k+1)) (gcode f 0)=pc at *;generalize ((f:Nat):Int)=fi at *;have c1:=M.c1;have HM:=Lib.hid M;have Hfr:=Lib.hid hfr;have Hg:=Lib.hid hg;have hfi:=fi
 clear M hfr hla hg HF hlb hlen
 go_enter Tryz.func47,Tryz.ntmps47
 go_wp2;refine wp_region_held_drew (S:=fun W=>W.cell? ⟨b,1,none⟩=some (.int .i64 fi)) (by kernel_rfl) ((Mod.refl noF _).drew.cell c1 (fun e=>e)) (fun hHeld=>?_)
 iterate 6
  first|refine tk 0 (by decide +kernel) ?_|refine tk 1 (by decide +kernel) ?_|refine tk 2 (by decide +kernel) ?_|refine tk 3 (by decide +kernel) ?_|refine tk 4 (by decide +kernel) ?_|refine tk 5 (by decide +kernel) ?_
  apply Exists.intro;apply And.intro;(rw[List.getElem?_toArray];rfl);apply Exists.intro;refine ⟨by assumption,fun _ _ _ h=>h,?_,?_⟩
  ·refine Or.inl ⟨by rfl,?_⟩;intro w hSw;(try dsimp only at hSw);go_simp;(try rw[if_neg (by omega)]);try with_reducible rfl
  try simp only[Act.put,List.setIfInBounds_toArray,List.set_cons_zero,List.set_cons_succ]
 refine wpAnyH_ready (rs:=[6]) (by kernel_rfl) (by simp) ?_;refine AllReadyH.cons rfl (fun K hK=>?_) AllReadyH.nil
 go_simp
 refine (Hfr.out _ (Mod.refl _ _).drew).mono ?_;rintro e w4 ⟨rfl,hm4,hs4⟩;have Hm4:=Lib.hid hm4;have Hs4:=Lib.hid hs4;refine Shut.out hK _ _ hm4.c1 (fun hS4=>?_);clear hm4 hs4 c1
 try simp only[Act.put,List.setIfInBounds_toArray,List.set_cons_zero,List.set_cons_succ]
 refine wpAnyH_ready (rs:=[7]) (by kernel_rfl) (by simp) ?_;refine AllReadyH.cons rfl (fun K hK=>?_) AllReadyH.nil
 go_simp
 refine (Hg.out _).mono ?_;rintro e w5 ⟨pv,rfl,hmade⟩;have hq5:=Mod.below hmade.2.1;have hM5:=Hm4.out.quiet hq5;have Hm5:=Lib.hid hM5;have Hs5:=Lib.hid (Hs4.out.quiet hq5);have Hpv:=Lib.hid hmade.1;have Hpn:=Lib.hid hmade.2.2;refine Shut.out hK _ _ hM5.c1 (fun hS5=>?_);clear hM5 hmade hq5
 try simp only[Act.put,List.setIfInBounds_toArray,List.set_cons_zero,List.set_cons_succ]
 iterate 5
  first|refine tk 8 (by decide +kernel) ?_|refine tk 9 (by decide +kernel) ?_|refine tk 10 (by decide +kernel) ?_|refine tk 11 (by decide +kernel) ?_|refine tk 12 (by decide +kernel) ?_
  apply Exists.intro;apply And.intro;(rw[List.getElem?_toArray];rfl);apply Exists.intro;refine ⟨by assumption,fun _ _ _ h=>h,?_,?_⟩
  ·refine Or.inl ⟨by rfl,?_⟩;intro w hSw;(try dsimp only at hSw);go_simp;(try rw[if_neg (by omega)]);try with_reducible rfl
  try simp only[Act.put,List.setIfInBounds_toArray,List.set_cons_zero,List.set_cons_succ]
 refine wpAnyH_done (by kernel_rfl) ?_ _;clear hS4 hS5 hK hHeld;have HC:=Lib.hid (Chain.start Hm5.out.m.emit)
 go_wp2_with fail
 refine (made_more HC.out (by omega) (by have:=Hlen.out;omega) Hpv.out).mono ?_;rintro e w6 ⟨rfl,C⟩
 have hfin:∃v',MkA N0 big fi t nx w6 b v' (l++pc) (k+1)∧MkStep w b v w6 v':=by
  obtain ⟨v',M',S'⟩:=Hm5.out.chain hT C;exact ⟨v',M',(((MkStep.refl w b v).quiet (Mod.refl noF w).drew).trans HM.out.lt Hs5.out).trans HM.out.lt S'⟩
 have Hfin:=Lib.hid hfin;clear hfin C;go_wp2
 go_end0
 exact ⟨rfl,Hfin.out⟩
theorem part1_ok(HF:FreshH N0 big f t nx K)(hT:big→lowT N0)(h1:1≤f)(h4:f≤4)(M:MkA N0 big f t nx w b v l k)(hk:k<K)(hK:K≤120)(hl:l.length≤100000) :
  Calls Tryz.prog 47 #[.pointer (some ⟨b,0,none⟩),.func (.func 76) #[] #[]] w fun e w'=>e=.returned (.tuple #[])∧∃v',MkA N0 big f t nx w' b v' (l++preC (Qu.labN (k+1)) (gcode f 1)) (k+1)∧MkStep w b v w' v':=by
 have hfr:=fun W (hW:Mod noF w W)=>HF W b v l k hk (M.quiet hW);have hla:=(Qu.labN_facts (k+1) (by omega)).2;have hg:=fun W=>grace_good h1 h4 (show 1<5 by decide) ⟨(Qu.labN (k+1)).toArray⟩ W (by simpa using hla.2.1) (by simpa[ByteArray.size]using hla.1)
 have hlen:(preC (Qu.labN (k+1)) (gcode f 1)).length≤70:=by unfold preC;rw[List.length_map];exact gcode_len h4 (by decide)
 have Hlen:=Lib.hid hlen;simp only at hg;unfold graceFn at hg;generalize hlb:(⟨(Qu.labN (k+1)).toArray⟩:ByteArray)=lb at *;generalize preC (Qu.labN (k+1)) (gcode f 1)=pc at *;generalize ((f:Nat):Int)=fi at *;have c1:=M.c1;have HM:=Lib.hid M;have Hfr:=Lib.hid hfr;have Hg:=Lib.hid hg;have hfi:=fi
 clear M hfr hla hg HF hlb hlen
 go_enter Tryz.func47,Tryz.ntmps47
 go_wp2;refine wp_region_held_drew (S:=fun W=>W.cell? ⟨b,1,none⟩=some (.int .i64 fi)) (by kernel_rfl) ((Mod.refl noF _).drew.cell c1 (fun e=>e)) (fun hHeld=>?_)
 iterate 6
  first|refine tk 0 (by decide +kernel) ?_|refine tk 1 (by decide +kernel) ?_|refine tk 2 (by decide +kernel) ?_|refine tk 3 (by decide +kernel) ?_|refine tk 4 (by decide +kernel) ?_|refine tk 5 (by decide +kernel) ?_
  apply Exists.intro;apply And.intro;(rw[List.getElem?_toArray];rfl);apply Exists.intro;refine ⟨by assumption,fun _ _ _ h=>h,?_,?_⟩
  ·refine Or.inl ⟨by rfl,?_⟩;intro w hSw;(try dsimp only at hSw);go_simp;(try rw[if_neg (by omega)]);try with_reducible rfl
  try simp only[Act.put,List.setIfInBounds_toArray,List.set_cons_zero,List.set_cons_succ]
 refine wpAnyH_ready (rs:=[6]) (by kernel_rfl) (by simp) ?_;refine AllReadyH.cons rfl (fun K hK=>?_) AllReadyH.nil
 go_simp
 refine (Hfr.out _ (Mod.refl _ _).drew).mono ?_;rintro e w4 ⟨rfl,hm4,hs4⟩;have Hm4:=Lib.hid hm4;have Hs4:=Lib.hid hs4;refine Shut.out hK _ _ hm4.c1 (fun hS4=>?_);clear hm4 hs4 c1
 try simp only[Act.put,List.setIfInBounds_toArray,List.set_cons_zero,List.set_cons_succ]
 refine wpAnyH_ready (rs:=[7]) (by kernel_rfl) (by simp) ?_;refine AllReadyH.cons rfl (fun K hK=>?_) AllReadyH.nil
 go_simp
 refine (Hg.out _).mono ?_;rintro e w5 ⟨pv,rfl,hmade⟩;have hq5:=Mod.below hmade.2.1;have hM5:=Hm4.out.quiet hq5;have Hm5:=Lib.hid hM5;have Hs5:=Lib.hid (Hs4.out.quiet hq5);have Hpv:=Lib.hid hmade.1;have Hpn:=Lib.hid hmade.2.2;refine Shut.out hK _ _ hM5.c1 (fun hS5=>?_);clear hM5 hmade hq5
 try simp only[Act.put,List.setIfInBounds_toArray,List.set_cons_zero,List.set_cons_succ]
 iterate 5
  first|refine tk 8 (by decide +kernel) ?_|refine tk 9 (by decide +kernel) ?_|refine tk 10 (by decide +kernel) ?_|refine tk 11 (by decide +kernel) ?_|refine tk 12 (by decide +kernel) ?_
  apply Exists.intro;apply And.intro;(rw[List.getElem?_toArray];rfl);apply Exists.intro;refine ⟨by assumption,fun _ _ _ h=>h,?_,?_⟩
  ·refine Or.inl ⟨by rfl,?_⟩;intro w hSw;(try dsimp only at hSw);go_simp;(try rw[if_neg (by omega)]);try with_reducible rfl
  try simp only[Act.put,List.setIfInBounds_toArray,List.set_cons_zero,List.set_cons_succ]
 refine wpAnyH_done (by kernel_rfl) ?_ _;clear hS4 hS5 hK hHeld;have HC:=Lib.hid (Chain.start Hm5.out.m.emit)
 go_wp2_with fail
 refine (made_more HC.out (by omega) (by have:=Hlen.out;omega) Hpv.out).mono ?_;rintro e w6 ⟨rfl,C⟩
 have hfin:∃v',MkA N0 big fi t nx w6 b v' (l++pc) (k+1)∧MkStep w b v w6 v':=by
  obtain ⟨v',M',S'⟩:=Hm5.out.chain hT C;exact ⟨v',M',(((MkStep.refl w b v).quiet (Mod.refl noF w).drew).trans HM.out.lt Hs5.out).trans HM.out.lt S'⟩
 have Hfin:=Lib.hid hfin;clear hfin C;go_wp2
 go_end0
 exact ⟨rfl,Hfin.out⟩
theorem part3_ok(HF:FreshH N0 big f t nx K)(hT:big→lowT N0)(h1:1≤f)(h4:f≤4)(M:MkA N0 big f t nx w b v l k)(hk:k<K)(hK:K≤120)(hl:l.length≤100000) :
  Calls Tryz.prog 47 #[.pointer (some ⟨b,0,none⟩),.func (.func 48) #[] #[]] w fun e w'=>e=.returned (.tuple #[])∧∃v',MkA N0 big f t nx w' b v' (l++preC (Qu.labN (k+1)) (gcode f 3)) (k+1)∧MkStep w b v w' v':=by
 have hfr:=fun W (hW:Mod noF w W)=>HF W b v l k hk (M.quiet hW);have hla:=(Qu.labN_facts (k+1) (by omega)).2;have hg:=fun W=>grace_good h1 h4 (show 3<5 by decide) ⟨(Qu.labN (k+1)).toArray⟩ W (by simpa using hla.2.1) (by simpa[ByteArray.size]using hla.1)
 have hlen:(preC (Qu.labN (k+1)) (gcode f 3)).length≤70:=by unfold preC;rw[List.length_map];exact gcode_len h4 (by decide)
 have Hlen:=Lib.hid hlen;simp only at hg;unfold graceFn at hg;generalize hlb:(⟨(Qu.labN (k+1)).toArray⟩:ByteArray)=lb at *;generalize preC (Qu.labN (k+1)) (gcode f 3)=pc at *;generalize ((f:Nat):Int)=fi at *;have c1:=M.c1;have HM:=Lib.hid M;have Hfr:=Lib.hid hfr;have Hg:=Lib.hid hg;have hfi:=fi
 clear M hfr hla hg HF hlb hlen
 go_enter Tryz.func47,Tryz.ntmps47
 go_wp2;refine wp_region_held_drew (S:=fun W=>W.cell? ⟨b,1,none⟩=some (.int .i64 fi)) (by kernel_rfl) ((Mod.refl noF _).drew.cell c1 (fun e=>e)) (fun hHeld=>?_)
 iterate 6
  first|refine tk 0 (by decide +kernel) ?_|refine tk 1 (by decide +kernel) ?_|refine tk 2 (by decide +kernel) ?_|refine tk 3 (by decide +kernel) ?_|refine tk 4 (by decide +kernel) ?_|refine tk 5 (by decide +kernel) ?_
  apply Exists.intro;apply And.intro;(rw[List.getElem?_toArray];rfl);apply Exists.intro;refine ⟨by assumption,fun _ _ _ h=>h,?_,?_⟩
  ·refine Or.inl ⟨by rfl,?_⟩;intro w hSw;(try dsimp only at hSw);go_simp;(try rw[if_neg (by omega)]);try with_reducible rfl
  try simp only[Act.put,List.setIfInBounds_toArray,List.set_cons_zero,List.set_cons_succ]
 refine wpAnyH_ready (rs:=[6]) (by kernel_rfl) (by simp) ?_;refine AllReadyH.cons rfl (fun K hK=>?_) AllReadyH.nil
 go_simp
 refine (Hfr.out _ (Mod.refl _ _).drew).mono ?_;rintro e w4 ⟨rfl,hm4,hs4⟩;have Hm4:=Lib.hid hm4;have Hs4:=Lib.hid hs4;refine Shut.out hK _ _ hm4.c1 (fun hS4=>?_);clear hm4 hs4 c1
 try simp only[Act.put,List.setIfInBounds_toArray,List.set_cons_zero,List.set_cons_succ]
 refine wpAnyH_ready (rs:=[7]) (by kernel_rfl) (by simp) ?_;refine AllReadyH.cons rfl (fun K hK=>?_) AllReadyH.nil
 go_simp
 refine (Hg.out _).mono ?_;rintro e w5 ⟨pv,rfl,hmade⟩;have hq5:=Mod.below hmade.2.1;have hM5:=Hm4.out.quiet hq5;have Hm5:=Lib.hid hM5;have Hs5:=Lib.hid (Hs4.out.quiet hq5);have Hpv:=Lib.hid hmade.1;have Hpn:=Lib.hid hmade.2.2;refine Shut.out hK _ _ hM5.c1 (fun hS5=>?_);clear hM5 hmade hq5
 try simp only[Act.put,List.setIfInBounds_toArray,List.set_cons_zero,List.set_cons_succ]
 iterate 5
  first|refine tk 8 (by decide +kernel) ?_|refine tk 9 (by decide +kernel) ?_|refine tk 10 (by decide +kernel) ?_|refine tk 11 (by decide +kernel) ?_|refine tk 12 (by decide +kernel) ?_
  apply Exists.intro;apply And.intro;(rw[List.getElem?_toArray];rfl);apply Exists.intro;refine ⟨by assumption,fun _ _ _ h=>h,?_,?_⟩
  ·refine Or.inl ⟨by rfl,?_⟩;intro w hSw;(try dsimp only at hSw);go_simp;(try rw[if_neg (by omega)]);try with_reducible rfl
  try simp only[Act.put,List.setIfInBounds_toArray,List.set_cons_zero,List.set_cons_succ]
 refine wpAnyH_done (by kernel_rfl) ?_ _;clear hS4 hS5 hK hHeld;have HC:=Lib.hid (Chain.start Hm5.out.m.emit)
 go_wp2_with fail
 refine (made_more HC.out (by omega) (by have:=Hlen.out;omega) Hpv.out).mono ?_;rintro e w6 ⟨rfl,C⟩
 have hfin:∃v',MkA N0 big fi t nx w6 b v' (l++pc) (k+1)∧MkStep w b v w6 v':=by
  obtain ⟨v',M',S'⟩:=Hm5.out.chain hT C;exact ⟨v',M',(((MkStep.refl w b v).quiet (Mod.refl noF w).drew).trans HM.out.lt Hs5.out).trans HM.out.lt S'⟩
 have Hfin:=Lib.hid hfin;clear hfin C;go_wp2
 go_end0
 exact ⟨rfl,Hfin.out⟩
theorem part4_ok(HF:FreshH N0 big f t nx K)(hT:big→lowT N0)(h1:1≤f)(h4:f≤4)(M:MkA N0 big f t nx w b v l k)(hk:k<K)(hK:K≤120)(hl:l.length≤100000) :
  Calls Tryz.prog 47 #[.pointer (some ⟨b,0,none⟩),.func (.func 86) #[] #[]] w fun e w'=>e=.returned (.tuple #[])∧∃v',MkA N0 big f t nx w' b v' (l++preC (Qu.labN (k+1)) (gcode f 4)) (k+1)∧MkStep w b v w' v':=by
 have hfr:=fun W (hW:Mod noF w W)=>HF W b v l k hk (M.quiet hW);have hla:=(Qu.labN_facts (k+1) (by omega)).2;have hg:=fun W=>grace_good h1 h4 (show 4<5 by decide) ⟨(Qu.labN (k+1)).toArray⟩ W (by simpa using hla.2.1) (by simpa[ByteArray.size]using hla.1)
 have hlen:(preC (Qu.labN (k+1)) (gcode f 4)).length≤70:=by unfold preC;rw[List.length_map];exact gcode_len h4 (by decide)
 have Hlen:=Lib.hid hlen;simp only at hg;unfold graceFn at hg;generalize hlb:(⟨(Qu.labN (k+1)).toArray⟩:ByteArray)=lb at *;generalize preC (Qu.labN (k+1)) (gcode f 4)=pc at *;generalize ((f:Nat):Int)=fi at *;have c1:=M.c1;have HM:=Lib.hid M;have Hfr:=Lib.hid hfr;have Hg:=Lib.hid hg;have hfi:=fi
 clear M hfr hla hg HF hlb hlen
 go_enter Tryz.func47,Tryz.ntmps47
 go_wp2;refine wp_region_held_drew (S:=fun W=>W.cell? ⟨b,1,none⟩=some (.int .i64 fi)) (by kernel_rfl) ((Mod.refl noF _).drew.cell c1 (fun e=>e)) (fun hHeld=>?_)
 iterate 6
  first|refine tk 0 (by decide +kernel) ?_|refine tk 1 (by decide +kernel) ?_|refine tk 2 (by decide +kernel) ?_|refine tk 3 (by decide +kernel) ?_|refine tk 4 (by decide +kernel) ?_|refine tk 5 (by decide +kernel) ?_
  apply Exists.intro;apply And.intro;(rw[List.getElem?_toArray];rfl);apply Exists.intro;refine ⟨by assumption,fun _ _ _ h=>h,?_,?_⟩
  ·refine Or.inl ⟨by rfl,?_⟩;intro w hSw;(try dsimp only at hSw);go_simp;(try rw[if_neg (by omega)]);try with_reducible rfl
  try simp only[Act.put,List.setIfInBounds_toArray,List.set_cons_zero,List.set_cons_succ]
 refine wpAnyH_ready (rs:=[6]) (by kernel_rfl) (by simp) ?_;refine AllReadyH.cons rfl (fun K hK=>?_) AllReadyH.nil
 go_simp
 refine (Hfr.out _ (Mod.refl _ _).drew).mono ?_;rintro e w4 ⟨rfl,hm4,hs4⟩;have Hm4:=Lib.hid hm4;have Hs4:=Lib.hid hs4;refine Shut.out hK _ _ hm4.c1 (fun hS4=>?_);clear hm4 hs4 c1
 try simp only[Act.put,List.setIfInBounds_toArray,List.set_cons_zero,List.set_cons_succ]
 refine wpAnyH_ready (rs:=[7]) (by kernel_rfl) (by simp) ?_;refine AllReadyH.cons rfl (fun K hK=>?_) AllReadyH.nil
 go_simp
 refine (Hg.out _).mono ?_;rintro e w5 ⟨pv,rfl,hmade⟩;have hq5:=Mod.below hmade.2.1;have hM5:=Hm4.out.quiet hq5;have Hm5:=Lib.hid hM5;have Hs5:=Lib.hid (Hs4.out.quiet hq5);have Hpv:=Lib.hid hmade.1;have Hpn:=Lib.hid hmade.2.2;refine Shut.out hK _ _ hM5.c1 (fun hS5=>?_);clear hM5 hmade hq5
 try simp only[Act.put,List.setIfInBounds_toArray,List.set_cons_zero,List.set_cons_succ]
 iterate 5
  first|refine tk 8 (by decide +kernel) ?_|refine tk 9 (by decide +kernel) ?_|refine tk 10 (by decide +kernel) ?_|refine tk 11 (by decide +kernel) ?_|refine tk 12 (by decide +kernel) ?_
  apply Exists.intro;apply And.intro;(rw[List.getElem?_toArray];rfl);apply Exists.intro;refine ⟨by assumption,fun _ _ _ h=>h,?_,?_⟩
  ·refine Or.inl ⟨by rfl,?_⟩;intro w hSw;(try dsimp only at hSw);go_simp;(try rw[if_neg (by omega)]);try with_reducible rfl
  try simp only[Act.put,List.setIfInBounds_toArray,List.set_cons_zero,List.set_cons_succ]
 refine wpAnyH_done (by kernel_rfl) ?_ _;clear hS4 hS5 hK hHeld;have HC:=Lib.hid (Chain.start Hm5.out.m.emit)
 go_wp2_with fail
 refine (made_more HC.out (by omega) (by have:=Hlen.out;omega) Hpv.out).mono ?_;rintro e w6 ⟨rfl,C⟩
 have hfin:∃v',MkA N0 big fi t nx w6 b v' (l++pc) (k+1)∧MkStep w b v w6 v':=by
  obtain ⟨v',M',S'⟩:=Hm5.out.chain hT C;exact ⟨v',M',(((MkStep.refl w b v).quiet (Mod.refl noF w).drew).trans HM.out.lt Hs5.out).trans HM.out.lt S'⟩
 have Hfin:=Lib.hid hfin;clear hfin C;go_wp2
 go_end0
 exact ⟨rfl,Hfin.out⟩
end
end Go.Proofs.YtppihkneeolomaaGreatDoor
section
namespace Qc
open Qs Qu Go.Proofs.YtppihkneeolomaaGreatDoor
def laterBlk(p:List UInt8)(tn:Nat)(nx:Int):List Instr:=[⟨14,3,0,0,p⟩,⟨6,2,5,((1+tn/4:Nat):Int),[]⟩,⟨6,0,2,((tn % 4:Nat):Int),[]⟩,⟨7,3,0,nx,[]⟩,⟨7,2,3,((tn % 4:Nat):Int),[]⟩,⟨0,3,0,0,[]⟩,⟨17,0,0,0,p⟩]
def flushTail(p q:List UInt8)(tn:Nat)(nx:Int):List Instr:=[⟨6,2,5,((1+tn/4:Nat):Int),[]⟩,⟨17,0,0,0,p⟩,⟨6,0,2,((tn % 4:Nat):Int),[]⟩,⟨14,0,0,0,q⟩,⟨6,1,0,nx,[]⟩,⟨7,2,1,((tn % 4:Nat):Int),[]⟩,⟨11,0,0,0,[]⟩,⟨16,0,0,0,p⟩,⟨17,0,0,0,q⟩]
def part(f k j:Nat):List Instr:=preC (labN (k+1)) (gcode f j)
def flushBlk(f k tn:Nat)(nx:Int):List Instr:=part f k 4++flushTail (labN (k+2)) (labN (k+3)) tn nx
end Qc
end
namespace Go.Proofs.YtppihkneeolomaaGreatDoor
section
open Go.RowKit Qs Qh
variable {N0 K tn f:Nat}{big:Prop}{nx:Int}{w w1 w2:World}{b k:Nat}{v v1 v2:Value}{l:List Instr}
theorem Chain.at0{w0:World}{o:Nat}{v0:Value}(C:Chain w0 b o v0 l w){j:Nat}(hj:j≠o){u:Value}(h:w0.cell? ⟨b,j,none⟩=some u):w.cell? ⟨b,j,none⟩=some u:=by
 obtain ⟨hb,v,E,G⟩:=C;exact G.cells j _ hj h
theorem mklist_ok(hT:big→lowT N0)(htn:tn<6)(M:MkA N0 big f (tn:Nat) nx w b v l k)(hl:l.length≤200000) :
  Calls Tryz.prog 97 #[.pointer (some ⟨b,0,none⟩)] w fun e w'=>e=.returned (.int .i64 ((tn % 4:Nat):Int))∧∃v',MkA N0 big f (tn:Nat) nx w' b v' (l++[⟨6,2,5,((1+tn/4:Nat):Int),[]⟩]) k∧MkStep w b v w' v':=by
 have HM:=Lib.hid M;have Hc2:=Lib.hid M.c2;have c2:=M.c2
 have hwr:IntKind.i64.wrap (1+IntKind.i64.wrap ((tn:Int)/4))=((1+tn/4:Nat):Int):=by
  rcases (by omega:tn=0∨tn=1∨tn=2∨tn=3∨tn=4∨tn=5)with rfl|rfl|rfl|rfl|rfl|rfl <;> decide
 clear M
 go_enter Tryz.func97,Tryz.ntmps97
 have HC:=Lib.hid (Chain.start HM.out.m.emit);go_wp2;refine wp_region_held_drew (S:=fun W=>W.cell? ⟨b,2,none⟩=some (.int .i64 ((tn:Nat):Int))) (by kernel_rfl) ((Mod.refl noF _).drew.cell Hc2.out (fun e=>e)) (fun hHeld=>?_)
 iterate 9
  first|refine tk 0 (by decide +kernel) ?_|refine tk 1 (by decide +kernel) ?_|refine tk 2 (by decide +kernel) ?_|refine tk 3 (by decide +kernel) ?_|refine tk 4 (by decide +kernel) ?_|refine tk 5 (by decide +kernel) ?_|refine tk 6 (by decide +kernel) ?_|refine tk 7 (by decide +kernel) ?_|refine tk 8 (by decide +kernel) ?_
  apply Exists.intro;apply And.intro;(rw[List.getElem?_toArray];rfl);apply Exists.intro;refine ⟨by assumption,fun _ _ _ h=>h,?_,?_⟩
  ·refine Or.inl ⟨by rfl,?_⟩;intro w hSw;(try dsimp only at hSw);go_simp;(try rw[if_neg (by omega)]);try with_reducible rfl
  try simp only[Act.put,List.setIfInBounds_toArray,List.set_cons_zero,List.set_cons_succ]
 refine Mk.em_spine (fun _=>((1+tn/4:Nat):Int)) (items:=[⟨some (9,12),10,13⟩]) (E:=[⟨6,[.c 2,.c 5,.t 11],[],0,0,[]⟩]) (r0:=5) (by kernel_rfl) (by kernel_rfl) (by kernel_rfl) (by rfl) ?lbR ?tvR ?moR (by rfl) (by rfl) ?lenR (fun w' l' C=>C.at0 (by omega) Hc2.out) (HC.out.quiet (Mod.refl _ _).drew) (by kernel_rfl) ?_
 case lbR=>(intro e he hk;simp only[List.mem_cons,List.not_mem_nil,or_false]at he;rcases he with rfl <;> (first|(simp at hk;done)|exact rfl))
 case tvR=>(intro e he k hk;simp only[List.mem_cons,List.not_mem_nil,or_false]at he;rcases he with rfl <;> (first|(simp at hk;done)|(simp at hk;subst hk;exact congrArg (Value.int .i64) (show (1:Int)+(tn:Int)/4=((1+tn/4:Nat):Int) by omega))))
 case moR=>(intro e he hk;simp only[List.mem_cons,List.not_mem_nil,or_false]at he;rcases he with rfl <;> (first|(simp at hk;done)|exact rfl))
 case lenR=>(simp[Mk.EmC.code,Mk.EmC.ins];omega)
 intro U xR C hU;have u13:U 13=_:=hU 0 _ rfl
 simp only[spTmps,SpI.tmps,List.flatMap_cons,List.flatMap_nil,Option.map_some,Option.map_none,Option.toList_some,Option.toList_none,List.cons_append,List.nil_append,List.append_nil,patch,List.foldl_cons,List.foldl_nil,Act.put,List.setIfInBounds_toArray,List.set_cons_zero,List.set_cons_succ,u13]
 generalize U 12=s12 at *;clear u13 hU hHeld;have hc2:=C.at0 (by omega) Hc2.out;have hfin:∃v':Value,MkA N0 big f (tn:Nat) nx xR b v' (l++[⟨6,2,5,((1+tn/4:Nat):Int),[]⟩]) k∧MkStep w b v xR v':=HM.out.chain hT C;have Hfin:=Lib.hid hfin;clear hfin C;go_wp2;go_ret
 exact ⟨congrArg (fun x=>Ending.returned (.int .i64 x)) (show (tn:Int) % 4=((tn % 4:Nat):Int) by omega),Hfin.out⟩
end
section
open Go.RowKit Qs Qh
variable {N0 K tn f:Nat}{big:Prop}{nx:Int}{w w1 w2:World}{b k:Nat}{v v1 v2:Value}{l:List Instr}
theorem later_ok(HF:FreshH N0 big f (tn:Nat) nx K)(hT:big→lowT N0)(htn:tn<6)(M:MkA N0 big f (tn:Nat) nx w b v l k)(hk:k<K)(hl:l.length≤100000) :
  Calls Tryz.prog 77 #[.pointer (some ⟨b,0,none⟩)] w fun e w'=>e=.returned (.tuple #[])∧∃v',MkA N0 big f (tn:Nat) nx w' b v' (l++Qc.laterBlk (Qu.labN (k+1)) tn nx) (k+1)∧MkStep w b v w' v':=by
 have HM:=Lib.hid M;have Hfr:=Lib.hid (HF w b v l k hk M);unfold Qc.laterBlk;generalize Qu.labN (k+1)=lb at *;clear M HF
 go_enter Tryz.func77,Tryz.ntmps77
 go_wp2_with fail
 refine Hfr.out.mono ?_;rintro e w1 ⟨rfl,M1,S1⟩;have HM1:=Lib.hid M1;have HS1:=Lib.hid S1;have HC1:=Lib.hid (Chain.start M1.m.emit);clear M1 S1
 go_wp2_with fail
 refine (to1_chain (HC1.out.quiet ((Mod.refl _ _).alloc _)) (by omega) 14 _ rfl lb _ rfl w1.heap.size 3 1 (by simp) (by simp)).mono ?_;rintro e w2 ⟨rfl,C⟩;obtain ⟨v2,M2,S2⟩:=HM1.out.chain hT C;have HM2:=Lib.hid M2;have HS2:=Lib.hid (HS1.out.trans HM.out.lt S2);clear C M2 S2 HS1 HC1
 go_wp2_with fail
 refine (mklist_ok hT htn HM2.out (by simp;omega)).mono ?_;rintro e w3 ⟨rfl,v3,M3,S3⟩;have HM3:=Lib.hid M3;have HS3:=Lib.hid (HS2.out.trans HM.out.lt S3);have Hc3:=Lib.hid M3.c3;have HC:=Lib.hid (Chain.start M3.m.emit);clear M3 S3 HS2 HM2;go_wp2
 refine wp_region_held_drew (S:=fun W=>W.cell? ⟨b,3,none⟩=some (.int .i64 nx)) (by kernel_rfl) ((Mod.refl noF _).drew.cell Hc3.out (fun e=>e)) (fun hHeld=>?_)
 iterate 10
  first|refine tk 0 (by decide +kernel) ?_|refine tk 1 (by decide +kernel) ?_|refine tk 2 (by decide +kernel) ?_|refine tk 3 (by decide +kernel) ?_|refine tk 6 (by decide +kernel) ?_|refine tk 7 (by decide +kernel) ?_|refine tk 8 (by decide +kernel) ?_|refine tk 9 (by decide +kernel) ?_|refine tk 12 (by decide +kernel) ?_|refine tk 17 (by decide +kernel) ?_
  apply Exists.intro;apply And.intro;(rw[List.getElem?_toArray];rfl);apply Exists.intro;refine ⟨by assumption,fun _ _ _ h=>h,?_,?_⟩
  ·refine Or.inl ⟨by rfl,?_⟩;intro w hSw;(try dsimp only at hSw);go_simp;(try rw[if_neg (by omega)]);try with_reducible rfl
  try simp only[Act.put,List.setIfInBounds_toArray,List.set_cons_zero,List.set_cons_succ]
 refine Mk.em_spine (fun k=>if k=23 then nx else ((tn % 4:Nat):Int)) (items:=[⟨some (4,18),5,19⟩,⟨some (10,24),11,25⟩,⟨some (13,27),14,28⟩,⟨some (15,29),16,30⟩,⟨none,18,32⟩]) (E:=[⟨6,[.c 0,.c 2,.t 17],[],0,0,[]⟩,⟨7,[.c 3,.c 0,.t 23],[],0,0,[]⟩,⟨7,[.c 2,.c 3,.t 26],[],0,0,[]⟩,⟨0,[.c 3,.c 0],[],0,0,[]⟩,⟨17,[],lb,2,31,[]⟩]) (r0:=16) (by kernel_rfl) (by kernel_rfl) (by kernel_rfl) (by rfl) ?lbR ?tvR ?moR (by rfl) (by rfl) ?lenR (fun w' l' C=>C.at0 (by omega) Hc3.out) (HC.out.quiet (Mod.refl _ _).drew) (by kernel_rfl) ?_
 case lbR=>(intro e he hk;simp only[List.mem_cons,List.not_mem_nil,or_false]at he;rcases he with rfl|rfl|rfl|rfl|rfl <;> (first|(simp at hk;done)|exact rfl))
 case tvR=>(intro e he k hk;simp only[List.mem_cons,List.not_mem_nil,or_false]at he;rcases he with rfl|rfl|rfl|rfl|rfl <;> (first|(simp at hk;done)|(simp at hk;subst hk;rfl)))
 case moR=>(intro e he hk;simp only[List.mem_cons,List.not_mem_nil,or_false]at he;rcases he with rfl|rfl|rfl|rfl|rfl <;> (first|(simp at hk;done)|exact rfl))
 case lenR=>(simp[Mk.EmC.code,Mk.EmC.ins];omega)
 intro U xR C hU;have u19:U 19=_:=hU 0 _ rfl;have u25:U 25=_:=hU 1 _ rfl;have u28:U 28=_:=hU 2 _ rfl;have u30:U 30=_:=hU 3 _ rfl;have u32:U 32=_:=hU 4 _ rfl
 simp only[spTmps,SpI.tmps,List.flatMap_cons,List.flatMap_nil,Option.map_some,Option.map_none,Option.toList_some,Option.toList_none,List.cons_append,List.nil_append,List.append_nil,patch,List.foldl_cons,List.foldl_nil,Act.put,List.setIfInBounds_toArray,List.set_cons_zero,List.set_cons_succ,u19,u25,u28,u30,u32]
 generalize U 18=s18 at *;generalize U 24=s24 at *;generalize U 27=s27 at *;generalize U 29=s29 at *;clear u19 u25 u28 u30 u32 hU hHeld
 have hfin:∃v':Value,MkA N0 big f (tn:Nat) nx xR b v' (l++[⟨14,3,0,0,lb⟩,⟨6,2,5,((1+tn/4:Nat):Int),[]⟩,⟨6,0,2,((tn % 4:Nat):Int),[]⟩,⟨7,3,0,nx,[]⟩,⟨7,2,3,((tn % 4:Nat):Int),[]⟩,⟨0,3,0,0,[]⟩,⟨17,0,0,0,lb⟩]) (k+1)∧MkStep w b v xR v':=by
  obtain ⟨v',M',S'⟩:=HM3.out.chain hT C;simp only[List.append_assoc]at M';exact ⟨v',M',HS3.out.trans HM.out.lt S'⟩
 have Hfin:=Lib.hid hfin;clear hfin C
 (try simp only[Exit.inBlock,Exit.then])
 go_end0
 exact ⟨rfl,Hfin.out⟩
end
section
open Go.RowKit Qs Qh
variable {N0 K tn f:Nat}{big:Prop}{nx:Int}{w w1 w2:World}{b k:Nat}{v v1 v2:Value}{l:List Instr}
theorem flush_ok(HF:FreshH N0 big f (tn:Nat) nx K)(hT:big→lowT N0)(h1:1≤f)(h4:f≤4)(htn:tn<6)(M:MkA N0 big f (tn:Nat) nx w b v l k)(hk:k+2<K)(hK:K≤120)(hl:l.length≤90000) :
  Calls Tryz.prog 78 #[.pointer (some ⟨b,0,none⟩)] w fun e w'=>e=.returned (.tuple #[])∧∃v',MkA N0 big f (tn:Nat) nx w' b v' (l++Qc.flushBlk f k tn nx) (k+3)∧MkStep w b v w' v':=by
 have HM:=Lib.hid M;have hp:=part4_ok HF hT h1 h4 M (by omega) hK (by omega);have Hp:=Lib.hid hp
 have hlen:(preC (Qu.labN (k+1)) (gcode f 4)).length≤70:=by unfold preC;rw[List.length_map];exact gcode_len h4 (by decide)
 have hf2:=fun w v l (M:MkA N0 big f (tn:Nat) nx w b v l (k+1))=>HF w b v l (k+1) (by omega) M;have hf3:=fun w v l (M:MkA N0 big f (tn:Nat) nx w b v l (k+1+1))=>HF w b v l (k+1+1) (by omega) M;have Hf2:=Lib.hid hf2;have Hf3:=Lib.hid hf3;unfold Qc.flushBlk Qc.part Qc.flushTail
 rw[show k+2=k+1+1 from rfl,show k+3=k+1+1+1 from rfl];generalize hpc:preC (Qu.labN (k+1)) (gcode f 4)=pc at *;generalize Qu.labN (k+1+1)=la at *;generalize Qu.labN (k+1+1+1)=lb at *;clear M HF hp hf2 hf3 hpc
 go_enter Tryz.func78,Tryz.ntmps78
 go_wp2_with fail
 refine Hp.out.mono ?_;rintro e w1 ⟨rfl,v1,M1,S1⟩;have HM1:=Lib.hid M1;have HS1:=Lib.hid S1;clear M1 S1
 go_wp2_with fail
 refine (Hf2.out _ _ _ HM1.out).mono ?_;rintro e w2 ⟨rfl,M2,S2⟩;have HM2:=Lib.hid M2;have HS2:=Lib.hid (HS1.out.trans HM.out.lt S2);clear M2 S2 HS1 HM1
 go_wp2_with fail
 refine (Hf3.out _ _ _ HM2.out).mono ?_;rintro e w3 ⟨rfl,M3,S3⟩;have HM3:=Lib.hid M3;have HS3:=Lib.hid (HS2.out.trans HM.out.lt S3);clear M3 S3 HS2 HM2
 go_wp2_with fail
 refine (mklist_ok hT htn HM3.out (by simp;omega)).mono ?_;rintro e w4 ⟨rfl,v4,M4,S4⟩;have HM4:=Lib.hid M4;have HS4:=Lib.hid (HS3.out.trans HM.out.lt S4);have Hc3:=Lib.hid M4.c3;have HC:=Lib.hid (Chain.start M4.m.emit);clear M4 S4 HS3 HM3;go_wp2
 refine wp_region_held_drew (S:=fun W=>W.cell? ⟨b,3,none⟩=some (.int .i64 nx)) (by kernel_rfl) ((Mod.refl noF _).drew.cell Hc3.out (fun e=>e)) (fun hHeld=>?_)
 iterate 13
  first|refine tk 0 (by decide +kernel) ?_|refine tk 1 (by decide +kernel) ?_|refine tk 2 (by decide +kernel) ?_|refine tk 3 (by decide +kernel) ?_|refine tk 5 (by decide +kernel) ?_|refine tk 8 (by decide +kernel) ?_|refine tk 11 (by decide +kernel) ?_|refine tk 12 (by decide +kernel) ?_|refine tk 13 (by decide +kernel) ?_|refine tk 14 (by decide +kernel) ?_|refine tk 17 (by decide +kernel) ?_|refine tk 22 (by decide +kernel) ?_|refine tk 24 (by decide +kernel) ?_
  apply Exists.intro;apply And.intro;(rw[List.getElem?_toArray];rfl);apply Exists.intro;refine ⟨by assumption,fun _ _ _ h=>h,?_,?_⟩
  ·refine Or.inl ⟨by rfl,?_⟩;intro w hSw;(try dsimp only at hSw);go_simp;(try rw[if_neg (by omega)]);try with_reducible rfl
  try simp only[Act.put,List.setIfInBounds_toArray,List.set_cons_zero,List.set_cons_succ]
 refine Mk.em_spine (fun k=>if k=27 then nx else ((tn % 4:Nat):Int)) (items:=[⟨none,4,17⟩,⟨some (6,19),7,20⟩,⟨some (9,22),10,23⟩,⟨some (15,28),16,29⟩,⟨some (18,31),19,32⟩,⟨some (20,33),21,34⟩,⟨none,23,36⟩,⟨none,25,38⟩]) (E:=[⟨17,[],la,2,16,[]⟩,⟨6,[.c 0,.c 2,.t 18],[],0,0,[]⟩,⟨14,[.c 0],lb,1,21,[]⟩,⟨6,[.c 1,.c 0,.t 27],[],0,0,[]⟩,⟨7,[.c 2,.c 1,.t 30],[],0,0,[]⟩,⟨11,[.c 0],[],0,0,[]⟩,⟨16,[],la,1,35,[]⟩,⟨17,[],lb,2,37,[]⟩]) (r0:=15) (by kernel_rfl) (by kernel_rfl) (by kernel_rfl) (by rfl) ?lbR ?tvR ?moR (by rfl) (by rfl) ?lenR (fun w' l' C=>C.at0 (by omega) Hc3.out) (HC.out.quiet (Mod.refl _ _).drew) (by kernel_rfl) ?_
 case lbR=>(intro e he hk;simp only[List.mem_cons,List.not_mem_nil,or_false]at he;rcases he with rfl|rfl|rfl|rfl|rfl|rfl|rfl|rfl <;> (first|(simp at hk;done)|exact rfl))
 case tvR=>(intro e he k hk;simp only[List.mem_cons,List.not_mem_nil,or_false]at he;rcases he with rfl|rfl|rfl|rfl|rfl|rfl|rfl|rfl <;> (first|(simp at hk;done)|(simp at hk;subst hk;rfl)))
 case moR=>(intro e he hk;simp only[List.mem_cons,List.not_mem_nil,or_false]at he;rcases he with rfl|rfl|rfl|rfl|rfl|rfl|rfl|rfl <;> (first|(simp at hk;done)|exact rfl))
 case lenR=>(simp[Mk.EmC.code,Mk.EmC.ins];omega)
 intro U xR C hU;have u17:U 17=_:=hU 0 _ rfl;have u20:U 20=_:=hU 1 _ rfl;have u23:U 23=_:=hU 2 _ rfl;have u29:U 29=_:=hU 3 _ rfl;have u32:U 32=_:=hU 4 _ rfl;have u34:U 34=_:=hU 5 _ rfl;have u36:U 36=_:=hU 6 _ rfl;have u38:U 38=_:=hU 7 _ rfl
 simp only[spTmps,SpI.tmps,List.flatMap_cons,List.flatMap_nil,Option.map_some,Option.map_none,Option.toList_some,Option.toList_none,List.cons_append,List.nil_append,List.append_nil,patch,List.foldl_cons,List.foldl_nil,Act.put,List.setIfInBounds_toArray,List.set_cons_zero,List.set_cons_succ,u17,u20,u23,u29,u32,u34,u36,u38]
 generalize U 19=s19 at *;generalize U 22=s22 at *;generalize U 28=s28 at *;generalize U 31=s31 at *;generalize U 33=s33 at *;clear u17 u20 u23 u29 u32 u34 u36 u38 hU hHeld
 have hfin:∃v':Value,MkA N0 big f (tn:Nat) nx xR b v' (l++(pc++[⟨6,2,5,((1+tn/4:Nat):Int),[]⟩,⟨17,0,0,0,la⟩,⟨6,0,2,((tn % 4:Nat):Int),[]⟩,⟨14,0,0,0,lb⟩,⟨6,1,0,nx,[]⟩,⟨7,2,1,((tn % 4:Nat):Int),[]⟩,⟨11,0,0,0,[]⟩,⟨16,0,0,0,la⟩,⟨17,0,0,0,lb⟩])) (k+1+1+1)∧MkStep w b v xR v':=by
  obtain ⟨v',M',S'⟩:=HM4.out.chain hT C;simp only[List.append_assoc]at M';exact ⟨v',M',HS4.out.trans HM.out.lt S'⟩
 have Hfin:=Lib.hid hfin;clear hfin C
 (try simp only[Exit.inBlock,Exit.then])
 go_end0
 exact ⟨rfl,Hfin.out⟩
end
end Go.Proofs.YtppihkneeolomaaGreatDoor
section
namespace Qc
open Qs Qu Go.Proofs.YtppihkneeolomaaGreatDoor
inductive SOp where
 |push (n:Int)|pop|flush
deriving DecidableEq
def pushBlk(p q:List UInt8)(n:Int):List Instr:=[⟨10,3,0,0,[]⟩,⟨14,3,0,0,p⟩,⟨0,0,n,0,[]⟩,⟨7,3,0,0,[]⟩]++pushCode q++[⟨17,0,0,0,p⟩]
def popBlk(q p:List UInt8):List Instr:=popCode q++[⟨14,3,0,0,p⟩]++[⟨6,0,3,0,[]⟩]++[⟨18,0,0,0,[]⟩]++[⟨17,0,0,0,p⟩]
def sblk(f tn k:Nat):SOp→List Instr
 |.push n=>pushBlk (labN (k+1)) (labN (k+2)) n
 |.pop=>part f k 0++popBlk (labN (k+2)) (labN (k+3))++part f (k+3) 1++laterBlk (labN (k+5)) tn 2
 |.flush=>flushBlk f k tn 2
def sinc:SOp→Nat
 |.push _=>2
 |.pop=>5
 |.flush=>3
end Qc
namespace Go.Proofs.YtppihkneeolomaaGreatDoor
open Go.RowKit Qs Qh
variable {N0 K tn f:Nat}{big:Prop}{w w1 w2:World}{b k:Nat}{v v1 v2:Value}{l:List Instr}
theorem sop_k_flush(HF:FreshH N0 big f (tn:Nat) 2 K)(hT:big→lowT N0)(h1:1≤f)(h4:f≤4)(htn:tn<6)(M:MkA N0 big f (tn:Nat) 2 w b v l k)(hk:k+5≤K)(hK:K≤120)(hl:l.length≤80000) :
  Calls Tryz.prog 46 #[.pointer (some ⟨b,0,none⟩),.agg #[.string ⟨#[102,108,117,115,104]⟩,.int .i64 0]] w fun e w'=>e=.returned (.tuple #[])∧∃v',MkA N0 big f (tn:Nat) 2 w' b v' (l++Qc.sblk f tn k .flush) (k+3)∧MkStep w b v w' v':=by
 have hq:=(Mod.refl noF w).alloc (.cells #[.string ⟨#[102,108,117,115,104]⟩,.int .i64 0] 88);have M1:=M.quiet hq;have S1:=(MkStep.refl w b v).quiet hq
 have hbx:w.heap.size≠b:=by have:=M.lt;omega
 have hvx:v.ownBlock≠some w.heap.size:=fun e=>by have:=M.vlt e;omega
 have e0:((⟨#[102,108,117,115,104]⟩:ByteArray).toList==(⟨#[112,117,115,104]⟩:ByteArray).toList)=false:=by
  rw[ByteArray.toList_eq,ByteArray.toList_eq];rfl
 have e1:((⟨#[102,108,117,115,104]⟩:ByteArray).toList==(⟨#[112,111,112]⟩:ByteArray).toList)=false:=by
  rw[ByteArray.toList_eq,ByteArray.toList_eq];rfl
 have e2:((⟨#[102,108,117,115,104]⟩:ByteArray).toList==(⟨#[102,108,117,115,104]⟩:ByteArray).toList)=true:=by simp
 have HM:=Lib.hid M;have HM1:=Lib.hid M1;have HS1:=Lib.hid S1;have Hbx:=Lib.hid hbx;have Hvx:=Lib.hid hvx;have hc:=flush_ok HF hT h1 h4 htn HM1.out (by omega) hK (by omega);have Hc:=Lib.hid hc;unfold Qc.sblk;clear M M1 S1 hbx hvx HF hq hc
 go_enter Tryz.func46,Tryz.ntmps46
 go_wp2_with fail
 refine Hc.out.mono ?_;rintro e w2 ⟨rfl,v2,M2,S2⟩;have HM2:=Lib.hid M2;have HS2:=Lib.hid (HS1.out.trans HM.out.lt S2);clear M2 S2;go_wp2
 go_end0
 exact ⟨rfl,v2,HM2.out,HS2.out⟩
theorem sop_k_push(n:Int)(HF:FreshH N0 big f (tn:Nat) 2 K)(hT:big→lowT N0)(h1:1≤f)(h4:f≤4)(htn:tn<6)(M:MkA N0 big f (tn:Nat) 2 w b v l k)(hk:k+5≤K)(hK:K≤120)(hl:l.length≤80000) :
  Calls Tryz.prog 46 #[.pointer (some ⟨b,0,none⟩),.agg #[.string ⟨#[112,117,115,104]⟩,.int .i64 n]] w fun e w'=>e=.returned (.tuple #[])∧∃v',MkA N0 big f (tn:Nat) 2 w' b v' (l++Qc.sblk f tn k (.push n)) (k+2)∧MkStep w b v w' v':=by
 have hq:=(Mod.refl noF w).alloc (.cells #[.string ⟨#[112,117,115,104]⟩,.int .i64 n] 88);have M1:=M.quiet hq;have S1:=(MkStep.refl w b v).quiet hq
 have hbx:w.heap.size≠b:=by have:=M.lt;omega
 have hvx:v.ownBlock≠some w.heap.size:=fun e=>by have:=M.vlt e;omega
 have e0:((⟨#[112,117,115,104]⟩:ByteArray).toList==(⟨#[112,117,115,104]⟩:ByteArray).toList)=true:=by simp
 have HM:=Lib.hid M;have HM1:=Lib.hid M1;have HS1:=Lib.hid S1;have Hbx:=Lib.hid hbx;have Hvx:=Lib.hid hvx
 have c1:(w.alloc (.cells #[.string ⟨#[112,117,115,104]⟩,.int .i64 n] 88)).cell? ⟨w.heap.size,1,none⟩=some (.int .i64 n):=by simp
 have Hc1:=Lib.hid c1;have hfr:=HF _ _ _ _ k (by omega) M1;have Hfr:=Lib.hid hfr;have hlf:=Qu.labN_facts (k+2) (by omega);have hfr2:=fun (W:World) (v:Value) (l:List Instr) (M:MkA N0 big f (tn:Nat) 2 W b v l (k+1))=>HF W b v l (k+1) (by omega) M;have Hfr2:=Lib.hid hfr2
 have hpu:=fun W=>push_ok ⟨(Qu.labN (k+2)).toArray⟩ W (by simpa using hlf.2.2.1) (by have:=hlf.2.1;simp[ByteArray.size];omega);have Hpu:=Lib.hid hpu;have hpl:(pushCode (Qu.labN (k+2))).length=9:=rfl;unfold Qc.sblk Qc.pushBlk;rw[show k+1+1=k+2 from rfl]at Hfr2;simp only at Hpu
 generalize Qu.labN (k+1)=lb at *;generalize Qu.labN (k+2)=lc at *;clear M M1 S1 hbx hvx HF hq hfr c1 hlf hfr2 hpu
 go_enter Tryz.func46,Tryz.ntmps46
 go_wp2_with fail
 refine Hfr.out.mono ?_;rintro e w2 ⟨rfl,M2,S2⟩;have HM2:=Lib.hid M2;have Hg1:=Lib.hid (S2.old (p:=⟨w.heap.size,1,none⟩) Hbx.out Hvx.out Hc1.out);have HS2:=Lib.hid (HS1.out.trans HM.out.lt S2);have HC:=Lib.hid (Chain.start M2.m.emit);clear M2 S2;go_wp2
 refine wp_region_held_drew (S:=fun W=>W.cell? ⟨w.heap.size,1,none⟩=some (.int .i64 n)) (by kernel_rfl) ((Mod.refl noF _).drew.cell Hg1.out (fun e=>e)) (fun hHeld=>?_);refine wpAnyH_take (i:=0) (oi:=?oRx0) (v:=?vRx0) ?qRx0 (by kernel_rfl) ?fRx0 ?gRx0 ?pRx0 ?uRx0 (by assumption) ?rRx0
 case qRx0=>(rw[List.getElem?_toArray];rfl)
 case fRx0=>kernel_rfl
 case gRx0=>kernel_rfl
 case pRx0=>exact (fun _ _ _ h=>h)
 case uRx0=>(refine Or.inl ⟨by rfl,?_⟩;intro w hSw;(try dsimp only at hSw);go_simp;(try rw[if_neg (by omega)]);try with_reducible rfl)
 try simp only[Act.put,List.setIfInBounds_toArray,List.set_cons_zero,List.set_cons_succ]
 refine wpAnyH_take (i:=1) (oi:=?oRx1) (v:=?vRx1) ?qRx1 (by kernel_rfl) ?fRx1 ?gRx1 ?pRx1 ?uRx1 (by assumption) ?rRx1
 case qRx1=>(rw[List.getElem?_toArray];rfl)
 case fRx1=>kernel_rfl
 case gRx1=>kernel_rfl
 case pRx1=>exact (fun _ _ _ h=>h)
 case uRx1=>(refine Or.inl ⟨by rfl,?_⟩;intro w hSw;(try dsimp only at hSw);go_simp;(try rw[if_neg (by omega)]);try with_reducible rfl)
 try simp only[Act.put,List.setIfInBounds_toArray,List.set_cons_zero,List.set_cons_succ]
 refine wpAnyH_take (i:=2) (oi:=?oRx2) (v:=?vRx2) ?qRx2 (by kernel_rfl) ?fRx2 ?gRx2 ?pRx2 ?uRx2 (by assumption) ?rRx2
 case qRx2=>(rw[List.getElem?_toArray];rfl)
 case fRx2=>kernel_rfl
 case gRx2=>kernel_rfl
 case pRx2=>exact (fun _ _ _ h=>h)
 case uRx2=>(refine Or.inl ⟨by rfl,?_⟩;intro w hSw;(try dsimp only at hSw);go_simp;(try rw[if_neg (by omega)]);try with_reducible rfl)
 try simp only[Act.put,List.setIfInBounds_toArray,List.set_cons_zero,List.set_cons_succ]
 refine wpAnyH_take (i:=5) (oi:=?oRx5) (v:=?vRx5) ?qRx5 (by kernel_rfl) ?fRx5 ?gRx5 ?pRx5 ?uRx5 (by assumption) ?rRx5
 case qRx5=>(rw[List.getElem?_toArray];rfl)
 case fRx5=>kernel_rfl
 case gRx5=>kernel_rfl
 case pRx5=>exact (fun _ _ _ h=>h)
 case uRx5=>(refine Or.inl ⟨by rfl,?_⟩;intro w hSw;(try dsimp only at hSw);go_simp;(try rw[if_neg (by omega)]);try with_reducible rfl)
 try simp only[Act.put,List.setIfInBounds_toArray,List.set_cons_zero,List.set_cons_succ]
 refine wpAnyH_take (i:=8) (oi:=?oRx8) (v:=?vRx8) ?qRx8 (by kernel_rfl) ?fRx8 ?gRx8 ?pRx8 ?uRx8 (by assumption) ?rRx8
 case qRx8=>(rw[List.getElem?_toArray];rfl)
 case fRx8=>kernel_rfl
 case gRx8=>kernel_rfl
 case pRx8=>exact (fun _ _ _ h=>h)
 case uRx8=>(refine Or.inl ⟨by rfl,?_⟩;intro w hSw;(try dsimp only at hSw);go_simp;(try rw[if_neg (by omega)]);try with_reducible rfl)
 try simp only[Act.put,List.setIfInBounds_toArray,List.set_cons_zero,List.set_cons_succ]
 refine wpAnyH_take (i:=9) (oi:=?oRx9) (v:=?vRx9) ?qRx9 (by kernel_rfl) ?fRx9 ?gRx9 ?pRx9 ?uRx9 (by assumption) ?rRx9
 case qRx9=>(rw[List.getElem?_toArray];rfl)
 case fRx9=>kernel_rfl
 case gRx9=>kernel_rfl
 case pRx9=>exact (fun _ _ _ h=>h)
 case uRx9=>(refine Or.inl ⟨by rfl,?_⟩;intro w hSw;(try dsimp only at hSw);go_simp;(try rw[if_neg (by omega)]);try with_reducible rfl)
 try simp only[Act.put,List.setIfInBounds_toArray,List.set_cons_zero,List.set_cons_succ]
 refine Mk.em_spine (fun _=>n) (items:=[⟨some (3,19),4,20⟩,⟨some (6,22),7,23⟩,⟨some (10,26),11,27⟩,⟨some (12,28),13,29⟩]) (E:=[⟨10,[.c 3],[],0,0,[]⟩,⟨14,[.c 3],lb,1,21,[]⟩,⟨0,[.c 0,.t 25],[],0,0,[]⟩,⟨7,[.c 3,.c 0,.c 0],[],0,0,[]⟩]) (r0:=18) (by kernel_rfl) (by kernel_rfl) (by kernel_rfl) (by rfl) ?lbR ?tvR ?moR (by rfl) (by rfl) ?lenR (fun w' l' C=>C.mine (p:=⟨w.heap.size,1,none⟩) Hbx.out Hvx.out Hg1.out) (HC.out.quiet (Mod.refl _ _).drew) (by kernel_rfl) ?_
 case lbR=>(intro e he hk;simp only[List.mem_cons,List.not_mem_nil,or_false]at he;rcases he with rfl|rfl|rfl|rfl <;> (first|(simp at hk;done)|exact rfl))
 case tvR=>(intro e he k hk;simp only[List.mem_cons,List.not_mem_nil,or_false]at he;rcases he with rfl|rfl|rfl|rfl <;> (first|(simp at hk;done)|(simp at hk;subst hk;rfl)))
 case moR=>(intro e he hk;simp only[List.mem_cons,List.not_mem_nil,or_false]at he;rcases he with rfl|rfl|rfl|rfl <;> (first|(simp at hk;done)|exact rfl))
 case lenR=>(simp[Mk.EmC.code,Mk.EmC.ins];omega)
 intro U xR C hU;have u20:U 20=_:=hU 0 _ rfl;have u23:U 23=_:=hU 1 _ rfl;have u27:U 27=_:=hU 2 _ rfl;have u29:U 29=_:=hU 3 _ rfl
 simp only[spTmps,SpI.tmps,List.flatMap_cons,List.flatMap_nil,Option.map_some,Option.map_none,Option.toList_some,Option.toList_none,List.cons_append,List.nil_append,List.append_nil,patch,List.foldl_cons,List.foldl_nil,Act.put,List.setIfInBounds_toArray,List.set_cons_zero,List.set_cons_succ,u20,u23,u27,u29]
 generalize U 19=s19 at *;generalize U 22=s22 at *;generalize U 26=s26 at *;generalize U 28=s28 at *;clear u20 u23 u27 u29 hU hHeld
 have hfin:∃v':Value,MkA N0 big f (tn:Nat) 2 xR b v' (l++[⟨10,3,0,0,[]⟩,⟨14,3,0,0,lb⟩,⟨0,0,n,0,[]⟩,⟨7,3,0,0,[]⟩]) (k+1)∧MkStep w b v xR v':=by
  obtain ⟨v',M',S'⟩:=HM2.out.chain hT C;exact ⟨v',M',HS2.out.trans HM.out.lt S'⟩
 obtain ⟨v3,M3,S3⟩:=hfin;have HM3:=Lib.hid M3;have HS3:=Lib.hid S3;have hf3:=Hfr2.out xR v3 _ M3;have Hf3:=Lib.hid hf3;clear M3 S3 C hf3
 go_wp2_with fail
 refine Hf3.out.mono ?_;rintro e w4 ⟨rfl,M4,S4⟩;have HM4:=Lib.hid M4;have HS4:=Lib.hid (HS3.out.trans HM.out.lt S4);clear M4 S4 Hf3
 go_wp2_with fail
 refine (Hpu.out w4).mono ?_;rintro e w5 ⟨va,rfl,hma⟩;have hqa:=Mod.below hma.2.1;obtain ⟨ga,ca,rfl,hsA⟩:=InsRow.src hma.1 (by rw[hpl];omega);have HM5:=Lib.hid (HM4.out.quiet hqa);have HS5:=Lib.hid (HS4.out.quiet hqa);have HsA:=Lib.hid hsA;have HC5:=Lib.hid (Chain.start HM5.out.m.emit)
 clear hma hqa hsA
 go_wp2_with fail
 refine (more_chain HC5.out (by simp;omega) (pushCode lc) ga ca HsA.out (by rw[hpl];omega)).mono ?_;rintro e x1 ⟨rfl,C⟩;have HC6:=Lib.hid C;clear C
 go_wp2_with fail
 refine (label_chain HC6.out (by simp;omega) lb _ rfl).mono ?_;rintro e x2 ⟨rfl,C⟩
 have hfin:∃v':Value,MkA N0 big f (tn:Nat) 2 x2 b v' (l++([⟨10,3,0,0,[]⟩,⟨14,3,0,0,lb⟩,⟨0,0,n,0,[]⟩,⟨7,3,0,0,[]⟩]++pushCode lc++[⟨17,0,0,0,lb⟩])) (k+2)∧MkStep w b v x2 v':=by
  obtain ⟨v',M',S'⟩:=HM5.out.chain hT C;refine ⟨v',?_,HS5.out.trans HM.out.lt S'⟩;simp only[List.append_assoc]at M' ⊢;exact M'
 have Hfin:=Lib.hid hfin;clear hfin C;go_wp2
 (try simp only[Exit.inBlock,Exit.then])
 go_end0
 exact ⟨rfl,Hfin.out⟩
theorem sop_k_pop(HF:FreshH N0 big f (tn:Nat) 2 K)(hT:big→lowT N0)(h1:1≤f)(h4:f≤4)(htn:tn<6)(M:MkA N0 big f (tn:Nat) 2 w b v l k)(hk:k+5≤K)(hK:K≤120)(hl:l.length≤80000) :
  Calls Tryz.prog 46 #[.pointer (some ⟨b,0,none⟩),.agg #[.string ⟨#[112,111,112]⟩,.int .i64 0]] w fun e w'=>e=.returned (.tuple #[])∧∃v',MkA N0 big f (tn:Nat) 2 w' b v' (l++Qc.sblk f tn k .pop) (k+5)∧MkStep w b v w' v':=by
 have hq:=(Mod.refl noF w).alloc (.cells #[.string ⟨#[112,111,112]⟩,.int .i64 0] 88);have M1:=M.quiet hq;have S1:=(MkStep.refl w b v).quiet hq
 have hbx:w.heap.size≠b:=by have:=M.lt;omega
 have hvx:v.ownBlock≠some w.heap.size:=fun e=>by have:=M.vlt e;omega
 have e0:((⟨#[112,111,112]⟩:ByteArray).toList==(⟨#[112,117,115,104]⟩:ByteArray).toList)=false:=by
  rw[ByteArray.toList_eq,ByteArray.toList_eq];rfl
 have e1:((⟨#[112,111,112]⟩:ByteArray).toList==(⟨#[112,111,112]⟩:ByteArray).toList)=true:=by simp
 have HM:=Lib.hid M;have HM1:=Lib.hid M1;have HS1:=Lib.hid S1;have Hbx:=Lib.hid hbx;have Hvx:=Lib.hid hvx;have hc:=part0_ok HF hT h1 h4 HM1.out (by omega) hK (by omega);have Hc:=Lib.hid hc;have hlf:=Qu.labN_facts (k+2) (by omega)
 have hfr2:=fun (W:World) (v:Value) (l:List Instr) (M:MkA N0 big f (tn:Nat) 2 W b v l (k+1))=>HF W b v l (k+1) (by omega) M;have hfr3:=fun (W:World) (v:Value) (l:List Instr) (M:MkA N0 big f (tn:Nat) 2 W b v l (k+2))=>HF W b v l (k+2) (by omega) M
 have hp1:=fun (W:World) (v:Value) (l:List Instr) (M:MkA N0 big f (tn:Nat) 2 W b v l (k+3)) (hl:l.length≤100000)=>part1_ok HF hT h1 h4 M (by omega) hK hl
 have hl4:=fun (W:World) (v:Value) (l:List Instr) (M:MkA N0 big f (tn:Nat) 2 W b v l (k+4)) (hl:l.length≤100000)=>later_ok HF hT htn M (by omega) hl;have Hfr2:=Lib.hid hfr2;have Hfr3:=Lib.hid hfr3;have Hp1:=Lib.hid hp1;have Hl4:=Lib.hid hl4
 have hpu:=fun W=>pop_ok ⟨(Qu.labN (k+2)).toArray⟩ W (by simpa using hlf.2.2.1) (by have:=hlf.2.1;simp[ByteArray.size];omega);have Hpu:=Lib.hid hpu;have hpl:(popCode (Qu.labN (k+2))).length=10:=rfl
 have g0:(Qc.part f k 0).length≤70:=by unfold Qc.part preC;rw[List.length_map];exact gcode_len h4 (by decide)
 have g1:(Qc.part f (k+3) 1).length≤70:=by unfold Qc.part preC;rw[List.length_map];exact gcode_len h4 (by decide)
 unfold Qc.sblk Qc.popBlk;rw[show k+1+1=k+2 from rfl]at Hfr2;rw[show k+2+1=k+3 from rfl]at Hfr3;simp only at Hpu;generalize Qu.labN (k+3)=lb at *;generalize Qu.labN (k+2)=lc at *;clear M M1 S1 hbx hvx HF hq hc hlf hfr2 hfr3 hp1 hl4 hpu
 go_enter Tryz.func46,Tryz.ntmps46
 go_wp2_with fail
 refine Hc.out.mono ?_;rintro e w2 ⟨rfl,v2,M2,S2⟩;have hM2:MkA N0 big f (tn:Nat) 2 w2 b v2 (l++Qc.part f k 0) (k+1):=M2;have HS2:=Lib.hid (HS1.out.trans HM.out.lt S2);have hf2:=Hfr2.out w2 v2 _ hM2;have Hf2:=Lib.hid hf2;clear M2 S2 hM2 hf2 Hc
 go_wp2_with fail
 refine Hf2.out.mono ?_;rintro e w4 ⟨rfl,M4,S4⟩;have HM4:=Lib.hid M4;have HS4:=Lib.hid (HS2.out.trans HM.out.lt S4);clear M4 S4 Hf2
 go_wp2_with fail
 refine (Hpu.out w4).mono ?_;rintro e w5 ⟨va,rfl,hma⟩;have hqa:=Mod.below hma.2.1;obtain ⟨ga,ca,rfl,hsA⟩:=InsRow.src hma.1 (by rw[hpl];omega);have hga:=hma.2.2 ga rfl;have HM5:=Lib.hid (HM4.out.quiet hqa);have HS5:=Lib.hid (HS4.out.quiet hqa)
 have hgb:ga≠b:=by have:=HM4.out.lt;omega
 have hgv:v2.ownBlock≠some ga:=fun e=>by have:=HM4.out.vlt e;omega
 have HsA:=Lib.hid hsA;have Hgb:=Lib.hid hgb;have Hgv:=Lib.hid hgv;have hf5:=Hfr3.out w5 v2 _ HM5.out;have Hf5:=Lib.hid hf5;clear hma hqa hsA hga hgb hgv hf5
 go_wp2_with fail
 refine Hf5.out.mono ?_;rintro e w6 ⟨rfl,M6,S6⟩;have HM6:=Lib.hid M6;have HS6:=Lib.hid (HS5.out.trans HM.out.lt S6)
 have hsA6:∀j u,(flat insV 0 (popCode lc))[j]?=some u→w6.cell? ((⟨ga,0,none⟩:Addr).add j)=some u:=fun j u h=>by
  have hadd:(⟨ga,0,none⟩:Addr).add j=⟨ga,0+j,none⟩:=by unfold Addr.add;split <;> simp_all
  have h2:=HsA.out j u h;rw[hadd]at h2 ⊢;exact S6.old (p:=⟨ga,0+j,none⟩) Hgb.out Hgv.out h2
 have HsA6:=Lib.hid hsA6;have HC5:=Lib.hid (Chain.start M6.m.emit);clear M6 S6 hsA6 Hf5
 go_wp2_with fail
 refine (more_chain HC5.out (by simp;omega) (popCode lc) ga ca HsA6.out (by rw[hpl];omega)).mono ?_;rintro e x1 ⟨rfl,C⟩;have HC1:=Lib.hid C;clear C
 go_wp2_with fail
 refine (to1_chain (HC1.out.quiet ((Mod.refl _ _).alloc _)) (by simp;omega) 14 _ rfl lb _ rfl x1.heap.size 3 1 (by simp) (by simp)).mono ?_;rintro e x2 ⟨rfl,C⟩;have HC2:=Lib.hid C;clear C
 go_wp2_with fail
 refine (op3_chain (HC2.out.quiet ((Mod.refl _ _).alloc _)) (by simp;omega) 6 _ rfl x2.heap.size 0 3 0 3 (by simp) (by simp) (by simp) (by simp)).mono ?_;rintro e x3 ⟨rfl,C⟩;have HC3:=Lib.hid C;clear C
 go_wp2_with fail
 refine (op1_chain (HC3.out.quiet ((Mod.refl _ _).alloc _)) (by simp;omega) 18 _ rfl x3.heap.size 0 1 (by simp) (by simp)).mono ?_;rintro e x4 ⟨rfl,C⟩;have HC4:=Lib.hid C;clear C
 go_wp2_with fail
 refine (label_chain HC4.out (by simp;omega) lb _ rfl).mono ?_;rintro e x5 ⟨rfl,C⟩;obtain ⟨v7,M7,S7⟩:=HM6.out.chain hT C;have HS7:=Lib.hid (HS6.out.trans HM.out.lt S7);have hp7:=Hp1.out x5 v7 _ M7 (by simp;omega);have Hp7:=Lib.hid hp7;clear C M7 S7 hp7
 go_wp2_with fail
 refine Hp7.out.mono ?_;rintro e w8 ⟨rfl,v8,M8,S8⟩;have HS8:=Lib.hid (HS7.out.trans HM.out.lt S8);have hp8:=Hl4.out w8 v8 _ M8 (by have:(preC (Qu.labN (k+3+1)) (gcode f 1)).length≤70:=g1;simp;omega);have Hp8:=Lib.hid hp8;clear M8 S8 hp8 Hp7
 go_wp2_with fail
 refine Hp8.out.mono ?_;rintro e w9 ⟨rfl,v9,M9,S9⟩;have HS9:=Lib.hid (HS8.out.trans HM.out.lt S9)
 have hM9:MkA N0 big f (tn:Nat) 2 w9 b v9 (l++(Qc.part f k 0++(popCode lc++[⟨14,3,0,0,lb⟩]++[⟨6,0,3,0,[]⟩]++[⟨18,0,0,0,[]⟩]++[⟨17,0,0,0,lb⟩])++Qc.part f (k+3) 1++Qc.laterBlk (Qu.labN (k+5)) tn 2)) (k+5):=by
  unfold Qc.part;simp only[List.append_assoc]at M9 ⊢;exact M9
 have HM9:=Lib.hid hM9;clear M9 S9 hM9 Hp8;go_wp2
 (try simp only[Exit.inBlock,Exit.then])
 go_end0
 exact ⟨rfl,v9,HM9.out,HS9.out⟩
end Go.Proofs.YtppihkneeolomaaGreatDoor
end
section
namespace Qc
open Qs Qu Qh Go.Proofs.YtppihkneeolomaaGreatDoor
def digB(c:UInt8):Bool:=decide (48≤c)&&decide (c≤57)
def OwnBy(j:Nat)(t:List UInt8):Prop:=j<128∧∃s,t=labN j++s∧(s.takeWhile digB)=[]
theorem labN_digs:∀j,j<128→((labN j).head? = some 111∧(labN j).tail.all digB=true):=by decide +kernel
def stemOf(t:List UInt8):List UInt8:=t.tail.takeWhile digB
theorem stem_lab{j:Nat}(hj:j<128){s:List UInt8}(hs:s.takeWhile digB=[]):labN j=111 :: stemOf (labN j++s):=by
 obtain ⟨h1,h2⟩:=labN_digs j hj
 cases hl:labN j with
 |nil=>rw[hl]at h1;cases h1
 |cons c ds=>
  rw[hl]at h1 h2;simp only[List.head?_cons,Option.some.injEq]at h1;simp only[List.tail_cons,List.all_eq_true]at h2;unfold stemOf;rw[List.cons_append,List.tail_cons,List.takeWhile_append_of_pos h2,hs,List.append_nil,h1]
theorem OwnBy.inj{i j:Nat}{t:List UInt8}(h1:OwnBy i t)(h2:OwnBy j t):i=j:=by
 obtain ⟨hi,s,e1,z1⟩:=h1;obtain ⟨hj,s',e2,z2⟩:=h2;have a1:=stem_lab hi z1;have a2:=stem_lab hj z2;rw[←e1]at a1;rw[←e2]at a2;exact labN_inj i hi j hj (a1.trans a2.symm)
theorem OwnBy.self{j:Nat}(hj:j<128):OwnBy j (labN j):=⟨hj,[],by simp,rfl⟩
structure BlkF(k n:Nat)(B:List Instr):Prop where
 ins:∀x∈B,insFine x=true
 set:∀(i:Nat) x,B[i]?=some x→x.op=17→labelAt x.to B 0=some i
 lab:∀x∈B,x.to≠[]→(labelAt x.to B 0).isSome=true
 own:∀x∈B,x.to=[]∨∃j,k<j∧j≤n∧OwnBy j x.to
theorem BlkF.ne{k n:Nat}{B:List Instr}(h:BlkF k n B){x:Instr}(hx:x∈B)(h17:x.op=17):x.to≠[]:=
 Qh.nameB_ne (insFine_jump (h.ins x hx) (.inr (.inr (.inr h17))))
theorem BlkF.mono{k n k' n':Nat}{B:List Instr}(h:BlkF k n B)(h1:k'≤k)(h2:n≤n'):BlkF k' n' B:=
 ⟨h.ins,h.set,h.lab,fun x hx=>(h.own x hx).imp id fun ⟨j,a,b,c⟩=>⟨j,by omega,by omega,c⟩⟩
theorem BlkF.append{k m n:Nat}{A B:List Instr}(hA:BlkF k m A)(hB:BlkF m n B)(h1:k≤m)(h2:m≤n):BlkF k n (A++B):=by
 have hdis:∀x∈B,x.to≠[]→∀y∈A,y.op=17→y.to≠x.to:=fun x hx hne y hy h17 e=>by
  rcases hA.own y hy with h|⟨i,i1,i2,i3⟩
  ·exact hA.ne hy h17 h
  ·rcases hB.own x hx with h|⟨j,j1,j2,j3⟩
   ·exact hne h
   ·rw[e]at i3;have:=i3.inj j3;omega
 have hlab:∀x∈B,x.to≠[]→∀j,labelAt x.to B 0=some j→labelAt x.to (A++B) 0=some (A.length+j):=fun x hx hne j hj=>by
  have:=row_label (C:=[]) (hdis x hx hne) hj;rw[List.append_nil]at this;exact this
 refine ⟨fun x hx=>?_,fun i x hi h17=>?_,fun x hx hne=>?_,fun x hx=>?_⟩
 ·rcases List.mem_append.1 hx with h|h
  ·exact hA.ins x h
  ·exact hB.ins x h
 ·by_cases hlt:i<A.length
  ·rw[List.getElem?_append_left hlt]at hi;exact labelAt_first B 0 (hA.set i x hi h17)
  ·rw[List.getElem?_append_right (by omega)]at hi;have hm:=List.mem_of_getElem? hi;rw[hlab x hm (hB.ne hm h17) _ (hB.set _ x hi h17)]
   congr 1;omega
 ·rcases List.mem_append.1 hx with h|h
  ·obtain ⟨j,hj⟩:=Option.isSome_iff_exists.1 (hA.lab x h hne);rw[labelAt_first B 0 hj];rfl
  ·obtain ⟨j,hj⟩:=Option.isSome_iff_exists.1 (hB.lab x h hne);rw[hlab x h hne j hj];rfl
 ·rcases List.mem_append.1 hx with h|h
  ·exact (hA.own x h).imp id fun ⟨j,a,b,c⟩=>⟨j,a,by omega,c⟩
  ·exact (hB.own x h).imp id fun ⟨j,a,b,c⟩=>⟨j,by omega,b,c⟩
theorem BlkF.nil(k:Nat):BlkF k k []:=⟨fun x hx=>(by cases hx),fun i x hi=>(by simp at hi),fun x hx=>(by cases hx),fun x hx=>(by cases hx)⟩
theorem BlkF.fine{k n:Nat}{B:List Instr}(h:BlkF k n B)(hl:B.length≤2000):CodeFine B:=⟨hl,h.ins,h.set,h.lab⟩
theorem BlkF.of{k n:Nat}{B:List Instr}(h:CodeFine B)(hown:∀x∈B,x.to=[]∨∃j,k<j∧j≤n∧OwnBy j x.to):BlkF k n B:=⟨h.ins,h.set,h.lab,hown⟩
theorem gcode_pre{f j:Nat}(h1:1≤f)(h4:f≤4)(hj:j<5):preOk (gcode f j)=true∧((gcode f j).all fun x=>x.to.isEmpty||x.to.takeWhile digB==[])=true:=by
 have key:∀f<5,∀j<5,1≤f→(preOk (gcode f j)&&(gcode f j).all fun x=>x.to.isEmpty||x.to.takeWhile digB==[])=true:=by decide +kernel
 have:=key f (by omega) j hj h1
 simpa only[Bool.and_eq_true]using this
theorem part_fine{f j:Nat}(h1:1≤f)(h4:f≤4)(hj:j<5)(k:Nat)(hk:k<127):BlkF k (k+1) (part f k j):=by
 obtain ⟨g1,g2⟩:=gcode_pre h1 h4 hj;obtain ⟨l1,l2,l3,l4⟩:=labN_facts (k+1) (by omega);refine BlkF.of (preC_fine l3 l2 g1) fun y hy=>?_;obtain ⟨x,hx,rfl⟩:=List.mem_map.1 hy;have:=List.all_eq_true.1 g2 x hx;simp only[Bool.or_eq_true,beq_iff_eq]at this;unfold preI;simp only
 by_cases he:x.to.isEmpty=true
 ·exact .inl (by rw[if_pos he])
 ·refine .inr ⟨k+1,by omega,by omega,by omega,x.to,by rw[if_neg he],this.resolve_left he⟩
theorem later_fine(tn:Nat)(nx:Int)(ht:tn<8)(hn:0≤nx∧nx<4)(k:Nat)(hk:k<127):BlkF k (k+1) (laterBlk (labN (k+1)) tn nx):=by
 have hnm:=(labN_facts (k+1) (by omega)).2.2.1;have hne:=Qh.nameB_ne hnm;have o1:OwnBy (k+1) (labN (k+1)):=OwnBy.self (by omega);generalize hL:labN (k+1)=L at *
 have r1:regB ((1+tn/4:Nat):Int) 4=true:=by unfold regB;simp;omega
 have r2:regB ((tn % 4:Nat):Int) 4=true:=by unfold regB;simp;omega
 have r3:regB nx 4=true:=by unfold regB;simp;omega
 have hl6:labelAt L (laterBlk L tn nx) 0=some 6:=by simp[laterBlk,labelAt]
 refine ⟨fun x hx=>?_,fun i x hi h17=>?_,fun x hx hxe=>?_,fun x hx=>?_⟩
 ·simp only[laterBlk,List.mem_cons,List.not_mem_nil,or_false]at hx
  rcases hx with rfl|rfl|rfl|rfl|rfl|rfl|rfl
  ·show (regB 3 8&&z0 0&&z0 0&&nameB L)=true;rw[hnm];rfl
  ·show (regB 2 8&&regB 5 8&&regB ((1+tn/4:Nat):Int) 4&&true)=true;rw[r1];rfl
  ·show (regB 0 8&&regB 2 8&&regB ((tn % 4:Nat):Int) 4&&true)=true;rw[r2];rfl
  ·show (regB 3 8&&regB 0 8&&regB nx 4&&true)=true;rw[r3];rfl
  ·show (regB 2 8&&regB 3 8&&regB ((tn % 4:Nat):Int) 4&&true)=true;rw[r2];rfl
  ·rfl
  ·show (z0 0&&z0 0&&z0 0&&nameB L)=true;rw[hnm];rfl
 ·match i,hi with
  |0,hi=>cases hi;simp at h17
  |1,hi=>cases hi;simp at h17
  |2,hi=>cases hi;simp at h17
  |3,hi=>cases hi;simp at h17
  |4,hi=>cases hi;simp at h17
  |5,hi=>cases hi;simp at h17
  |6,hi=>cases hi;exact hl6
  |i+7,hi=>simp[laterBlk]at hi
 ·simp only[laterBlk,List.mem_cons,List.not_mem_nil,or_false]at hx
  rcases hx with rfl|rfl|rfl|rfl|rfl|rfl|rfl
  all_goals first
   |exact absurd rfl hxe
   |(simp only;rw[hl6];rfl)
 ·simp only[laterBlk,List.mem_cons,List.not_mem_nil,or_false]at hx
  rcases hx with rfl|rfl|rfl|rfl|rfl|rfl|rfl
  all_goals first
   |exact .inl rfl
   |exact .inr ⟨k+1,by omega,by omega,o1⟩
theorem flush_fine(tn:Nat)(nx:Int)(ht:tn<8)(hn:0≤nx∧nx<4)(k:Nat)(hk:k+2<128):BlkF k (k+2) (flushTail (labN (k+1)) (labN (k+2)) tn nx):=by
 have hnm:=(labN_facts (k+1) (by omega)).2.2.1;have hnm2:=(labN_facts (k+2) (by omega)).2.2.1;have hne:=Qh.nameB_ne hnm;have hne2:=Qh.nameB_ne hnm2
 have hnn:labN (k+1)≠labN (k+2):=fun e=>by have:=labN_lab.1 _ _ e;omega
 have o1:OwnBy (k+1) (labN (k+1)):=OwnBy.self (by omega);generalize hL:labN (k+1)=L at *;have o2:OwnBy (k+2) (labN (k+2)):=OwnBy.self (by omega);generalize hM:labN (k+2)=M at *
 have r1:regB ((1+tn/4:Nat):Int) 4=true:=by unfold regB;simp;omega
 have r2:regB ((tn % 4:Nat):Int) 4=true:=by unfold regB;simp;omega
 have r3:regB nx 4=true:=by unfold regB;simp;omega
 have hl1:labelAt L (flushTail L M tn nx) 0=some 1:=by simp[flushTail,labelAt]
 have hl8:labelAt M (flushTail L M tn nx) 0=some 8:=by simp[flushTail,labelAt,hnn]
 refine ⟨fun x hx=>?_,fun i x hi h17=>?_,fun x hx hxe=>?_,fun x hx=>?_⟩
 ·simp only[flushTail,List.mem_cons,List.not_mem_nil,or_false]at hx
  rcases hx with rfl|rfl|rfl|rfl|rfl|rfl|rfl|rfl|rfl
  ·show (regB 2 8&&regB 5 8&&regB ((1+tn/4:Nat):Int) 4&&true)=true;rw[r1];rfl
  ·show (z0 0&&z0 0&&z0 0&&nameB L)=true;rw[hnm];rfl
  ·show (regB 0 8&&regB 2 8&&regB ((tn % 4:Nat):Int) 4&&true)=true;rw[r2];rfl
  ·show (regB 0 8&&z0 0&&z0 0&&nameB M)=true;rw[hnm2];rfl
  ·show (regB 1 8&&regB 0 8&&regB nx 4&&true)=true;rw[r3];rfl
  ·show (regB 2 8&&regB 1 8&&regB ((tn % 4:Nat):Int) 4&&true)=true;rw[r2];rfl
  ·rfl
  ·show (z0 0&&z0 0&&z0 0&&nameB L)=true;rw[hnm];rfl
  ·show (z0 0&&z0 0&&z0 0&&nameB M)=true;rw[hnm2];rfl
 ·match i,hi with
  |0,hi=>cases hi;simp at h17
  |1,hi=>cases hi;exact hl1
  |2,hi=>cases hi;simp at h17
  |3,hi=>cases hi;simp at h17
  |4,hi=>cases hi;simp at h17
  |5,hi=>cases hi;simp at h17
  |6,hi=>cases hi;simp at h17
  |7,hi=>cases hi;simp at h17
  |8,hi=>cases hi;exact hl8
  |i+9,hi=>simp[flushTail]at hi
 ·simp only[flushTail,List.mem_cons,List.not_mem_nil,or_false]at hx
  rcases hx with rfl|rfl|rfl|rfl|rfl|rfl|rfl|rfl|rfl
  all_goals first
   |exact absurd rfl hxe
   |(simp only;rw[hl1];rfl)
   |(simp only;rw[hl8];rfl)
 ·simp only[flushTail,List.mem_cons,List.not_mem_nil,or_false]at hx
  rcases hx with rfl|rfl|rfl|rfl|rfl|rfl|rfl|rfl|rfl
  all_goals first
   |exact .inl rfl
   |exact .inr ⟨k+1,by omega,by omega,o1⟩
   |exact .inr ⟨k+2,by omega,by omega,o2⟩
theorem flushBlk_fine{f:Nat}(h1:1≤f)(h4:f≤4)(tn:Nat)(nx:Int)(ht:tn<8)(hn:0≤nx∧nx<4)(k:Nat)(hk:k+3<128):BlkF k (k+3) (flushBlk f k tn nx):=
 (part_fine h1 h4 (by decide) k (by omega)).append (flush_fine tn nx ht hn (k+1) (by omega)) (by omega) (by omega)
theorem stop_fine(k:Nat):BlkF k k [⟨20,0,0,0,[]⟩]:=
 ⟨fun x hx=>by rw[List.mem_singleton]at hx;subst hx;rfl,fun i x hi h17=>by
  match i,hi with
  |0,hi=>cases hi;simp at h17
  |i+1,hi=>simp at hi,fun x hx hne=>by rw[List.mem_singleton]at hx;subst hx;exact absurd rfl hne,fun x hx=>by rw[List.mem_singleton]at hx;subst hx;exact .inl rfl⟩
end Qc
end
section
namespace Qo
open Qs Qg Qu Qc Qh Go.Proofs.YtppihkneeolomaaGreatDoor
variable {code A B C:List Instr}{a k n:Nat}{s s':S}{m0:M}{p:List UInt8}
theorem ip_of_fine{x:Instr}(h:insFine x=true):InsP x:=by
 obtain ⟨op,xa,xb,xc,to⟩:=x
 have rb:∀ {n k:Int},regB n k=true→0≤n∧n<k:=fun h=>by
  unfold regB at h;simpa using h
 have zz:∀ {n:Int},z0 n=true→n=0:=fun h=>by
  unfold z0 at h;simpa using h
 unfold insFine at h;simp only at h
 split at h
 all_goals first
  |cases h
  | (simp only [Bool.and_eq_true] at h
     obtain ⟨⟨⟨h1,h2⟩,h3⟩,h4⟩:=h;refine ⟨?_,fun g1 g2=>?_,fun g=>?_,fun g=>?_⟩ <;> simp only at *
     all_goals first
      |omega
      | (first | replace h1 := rb h1 | replace h1 := zz h1
         first|replace h2:=rb h2|replace h2:=zz h2
         first|replace h3:=rb h3|replace h3:=zz h3
         omega))
theorem inRow_of{k0 k k':Nat}(hA:BlkF k0 k A)(hB:BlkF k k' B):InRow (A++(B++C)) A.length B:=by
 refine ⟨fun i x hi=>?_,fun x hx=>ip_of_fine (hB.ins x hx),fun x hx g1 g2=>?_⟩
 ·have hlt:=(List.getElem?_eq_some_iff.1 hi).1;rw[List.getElem?_append_right (by omega),show A.length+i - A.length=i by omega,List.getElem?_append_left hlt];exact hi
 ·have hne:x.to≠[]:=Qh.nameB_ne (insFine_jump (hB.ins x hx) (by omega));obtain ⟨j,hj⟩:=Option.isSome_iff_exists.1 (hB.lab x hx hne);refine ⟨j,hj,row_label (fun y hy h17 e=>?_) hj⟩
  rcases hA.own y hy with h|⟨i,i1,i2,i3⟩
  ·exact hA.ne hy h17 h
  ·rcases hB.own x hx with h|⟨j,j1,j2,j3⟩
   ·exact hne h
   ·rw[e]at i3;have:=i3.inj j3;omega
def okJ(B:List Instr):Bool:=B.all fun x=>!(decide (14≤x.op)&&decide (x.op≤17)) || !x.to.isEmpty
theorem lab_pre(hB:∀x∈B,x.op=17→x.to≠[]){to:List UInt8}(ht:to≠[])(k:Nat):labelAt (p++to) (preC p B) k=labelAt to B k:=by
 have:=labelAt_ren (ρ:=fun t=>if t.isEmpty then []else p++t) (to:=to) (A:=B) k fun x hx h17 e=>by
  have hne:=hB x hx h17;have e1:(if x.to.isEmpty=true then []else p++x.to)=(if to.isEmpty=true then []else p++to):=e;rw[if_neg (by simpa using hne),if_neg (by simpa using ht)]at e1;exact List.append_cancel_left e1
 rw[if_neg (by simpa using ht)]at this;exact this
theorem okJ_g:∀f<5,∀j<5,okJ (gcode f j)=true:=by decide +kernel
end Qo
end
section
namespace Qc
open Qs Qu Go.Proofs.YtppihkneeolomaaGreatDoor
inductive COp where
 |enter|leave|rest|wait|read|put (n:Int)|drop|later|flush
deriving DecidableEq
end Qc
namespace Go.Proofs.YtppihkneeolomaaGreatDoor
open Go.RowKit Qs Qh
variable {N0 K tn f:Nat}{big:Prop}{w w1 w2:World}{b k:Nat}{v v1 v2:Value}{l:List Instr}
end Go.Proofs.YtppihkneeolomaaGreatDoor
end
namespace Go.Proofs.YtppihkneeolomaaGreatDoor
section
open Go.RowKit Qs Qh
variable {lo hi k j:Nat}{w w1 w':World}{v:Value}{ll:List (List Int)}{l:List Int}{bl:Nat→Nat}{x:Int}
theorem rwU_len{l l':List Int}(h:l'.length=l.length)(b:Nat):rwU l' b=rwU l b:=by unfold rwU;rw[h]
theorem rwV_set(hl:ll[k]?=some l){l':List Int}(h:l'.length=l.length):rwV (ll.set k l') bl=rwV ll bl:=by
 unfold rwV;refine List.ext_getElem? fun i=>?_;rw[List.getElem?_mapIdx,List.getElem?_mapIdx,List.getElem?_set]
 by_cases e:k=i
 ·subst e;have hlt:=(List.getElem?_eq_some_iff.1 hl).1;rw[if_pos rfl,if_pos hlt,hl];simp[rwU_len h]
 ·rw[if_neg e]
theorem Rws.set(R:Rws lo hi w v ll bl)(hl:ll[k]?=some l)(hj:j<l.length):Rws lo hi (w.setCell ⟨bl k,j,none⟩ (.int .i64 x)) v (ll.set k (l.set j x)) bl∧Mod (fun b=>b=bl k) w (w.setCell ⟨bl k,j,none⟩ (.int .i64 x)):=by
 have hM:Mod (fun b=>b=bl k) w (w.setCell ⟨bl k,j,none⟩ (.int .i64 x)):=(Mod.refl (fun b=>b=bl k) w).setCell (fun _=>rfl) _
 have hl0:l.length≠0:=by omega
 have hget:∀ {i:Nat} {y:List Int},(ll.set k (l.set j x))[i]?=some y→(i=k∧y=l.set j x)∨(i≠k∧ll[i]?=some y):=fun {i y} h=>by
  rw[List.getElem?_set]at h
  by_cases e:k=i
  ·rw[if_pos e]at h
   split at h
   ·exact .inl ⟨e.symm,(Option.some.inj h).symm⟩
   ·cases h
  ·rw[if_neg e]at h;exact .inr ⟨fun h=>e h.symm,h⟩
 have hsame:∀ {i:Nat} {y:List Int},(ll.set k (l.set j x))[i]?=some y→y.length≠0→∃z,ll[i]?=some z∧z.length≠0:=fun {i y} h h0=>by
  rcases hget h with ⟨rfl,rfl⟩|⟨_,h⟩
  ·exact ⟨l,hl,hl0⟩
  ·exact ⟨y,h,h0⟩
 refine ⟨⟨?_,fun i y h h0=>?_,R.vin,fun i y h h0=>?_,fun g i y hg h h0=>?_,fun i i' y y' h1 h2 h3 h4=>?_⟩,hM⟩
 ·rw[rwV_set hl (by simp),List.length_set];exact ownsRow_setCell_other R.own (fun e=>R.vne _ k l e hl hl0 rfl) _
 ·rcases hget h with ⟨rfl,rfl⟩|⟨hne,h⟩
  ·rw[Qh.heap_setCell_same (R.row i l hl hl0)]
   congr 2
   simp[List.map_set]
  ·exact hM.heap (R.row i y h h0) fun e=>hne (R.inj i k y l h hl h0 hl0 e)
 ·obtain ⟨z,hz,hz0⟩:=hsame h h0;exact R.bin i z hz hz0
 ·obtain ⟨z,hz,hz0⟩:=hsame h h0;exact R.vne g i z hg hz hz0
 ·obtain ⟨z,hz,hz0⟩:=hsame h1 h3;obtain ⟨z',hz',hz0'⟩:=hsame h2 h4;exact R.inj i i' z z' hz hz' hz0 hz0'
theorem intsAt_row{w:World}{b:Nat}{l:List Int}{T:TypeId}(h:w.heap[b]?=some (.cells (l.map (Value.int .i64)).toArray T (0,0)))(hl:l.length≤maxLen):IntsAt w (.slice (some ⟨b,0,none⟩) l.length l.length) l:=
 ⟨_,_,rfl,hl,fun i x hi=>⟨b,0,rfl,lt_of_block h,by rw[cell_of_heap h];simp[hi]⟩⟩
theorem intsAt_none(w:World):IntsAt w (.slice none 0 0) []:=⟨none,0,rfl,Nat.zero_le _,fun i x hi=>by simp at hi⟩
theorem Rws.cell(R:Rws lo hi w v ll bl):∃a c,v=.slice a ll.length c∧∀(i:Nat) l,ll[i]?=some l→∃b,a=some ⟨b,0,none⟩∧b<w.heap.size∧w.cell? ⟨b,i,none⟩=some (rwU l (bl i)):=by
 rcases R.own.2 with ⟨rfl,h0⟩|⟨g,cap,cur,rfl,_,hg,h1,h2,h3,h4⟩
 ·exact ⟨none,0,by rw[h0],fun i l h=>by have:=(List.getElem?_eq_some_iff.1 h).1;omega⟩
 ·refine ⟨_,cap,rfl,fun i l h=>⟨g,rfl,lt_of_block hg,?_⟩⟩;have hlt:=(List.getElem?_eq_some_iff.1 h).1;rw[cell_of_heap hg]
  have e:cur[i]?=(cur.toList.take (ll.length*1))[i]?:=by
   rw[List.getElem?_take,if_pos (by omega)];simp
  rw[e,h4];unfold rwV;rw[List.getElem?_mapIdx,h];rfl
theorem Rws.rows(R:Rws lo hi w v ll bl)(hlen:∀l∈ll,l.length≤100):Qh.RowsAt w v ll:=by
 obtain ⟨a,c,e,hx⟩:=R.cell;refine ⟨a,c,e,fun i l h=>?_⟩;obtain ⟨b,rfl,hb,hc⟩:=hx i l h;refine ⟨b,0,rwU l (bl i),rfl,hb,by rw[Nat.zero_add];exact hc,?_,fun g hg=>?_⟩
 ·unfold rwU
  split
  ·rename_i h0
   obtain rfl:=List.eq_nil_of_length_eq_zero h0;exact intsAt_none w
  ·rename_i h0
   exact intsAt_row (R.row i l h h0) (by have:=hlen l (List.mem_of_getElem? h);unfold maxLen;omega)
 ·unfold rwU at hg
  split at hg
  ·cases hg
  ·rename_i h0
   cases hg;exact lt_of_block (R.row i l h h0)
structure Cds(S:Nat)(w:World)(cv:Value)(cs:Nat→List Instr)(k:Nat)(vk:Nat→Value):Prop where
 own:w.ownsRow 0 71 1 cv k ((List.range k).map vk)
 vin:∀g,cv.ownBlock=some g→S≤g
 at_:∀i,i<k→CodeAt w (vk i) (cs i)
 bin:∀i g,i<k→(vk i).ownBlock=some g→S≤g∧g<w.heap.size
 ne:∀i g,i<k→(vk i).ownBlock=some g→cv.ownBlock≠some g
variable {S:Nat}{cv cv' u:Value}{cs:Nat→List Instr}{vk:Nat→Value}
theorem Cds.nil(S:Nat)(w:World)(cs:Nat→List Instr)(vk:Nat→Value):Cds S w (.slice none 0 0) cs 0 vk:=
 ⟨World.ownsRow_nil w 0 _ 1,fun g h=>(by cases h),fun i h=>by omega,fun i g h=>by omega,fun i g h=>by omega⟩
theorem Cds.keep(C:Cds S w cv cs k vk){F:Nat→Prop}(hM:Mod F w w1)(hF:∀b,S≤b→b<w.heap.size→¬F b):Cds S w1 cv cs k vk:=by
 refine ⟨⟨C.own.1,?_⟩,C.vin,fun i hi=>(C.at_ i hi).frame hM fun b hb=>hF b (C.bin i b hi hb).1 (C.bin i b hi hb).2,fun i g hi hg=>⟨(C.bin i g hi hg).1,Nat.lt_of_lt_of_le (C.bin i g hi hg).2 hM.size⟩,C.ne⟩
 rcases C.own.2 with e|⟨g,cap,cur,rfl,h0,hg,r⟩
 ·exact .inl e
 ·exact .inr ⟨g,cap,cur,rfl,h0,hM.heap hg (hF _ (C.vin g rfl) (lt_of_block hg)),r⟩
theorem Cds.push(C:Cds S w cv cs k vk)(hS:S≤w.heap.size)(hc:CodeAt w u (cs k))(hu:∀g,u.ownBlock=some g→S≤g∧g<w.heap.size∧cv.ownBlock≠some g)
  (hown:w1.ownsRow 0 71 1 cv' (k+1) ((List.range k).map vk++[u])) (hg:w.grownBy w1 cv.ownBlock) (hfr:∀g,cv'.ownBlock=some g→cv.ownBlock=some g∨w.heap.size≤g) :
  Cds S w1 cv' cs (k+1) (fun i=>if i=k then u else vk i):=by
 have hM:Mod (fun x=>cv.ownBlock=some x) w w1:=(Mod.refl (fun x=>cv.ownBlock=some x) w).grown hg fun j hj _=>hj;refine ⟨?_,fun g h=>?_,fun i hi=>?_,fun i g hi h=>?_,fun i g hi h e=>?_⟩
 ·have:(List.range (k+1)).map (fun i=>if i=k then u else vk i)=(List.range k).map vk++[u]:=by
   rw[List.range_succ,List.map_append]
   congr 1
   ·refine List.map_congr_left fun i hi=>?_;have:=List.mem_range.1 hi;rw[if_neg (by omega)]
   ·simp
  rw[this];exact hown
 ·rcases hfr g h with e|e
  ·exact C.vin g e
  ·omega
 ·by_cases e:i=k
  ·subst e;simp only[if_true];exact hc.frame hM fun b hb e=>(hu b hb).2.2 e
  ·rw[if_neg e];exact (C.at_ i (by omega)).frame hM fun b hb e'=>C.ne i b (by omega) hb e'
 ·have hs:=hM.size
  by_cases e:i=k
  ·subst e;simp only[if_true]at h;have:=hu g h;exact ⟨this.1,by omega⟩
  ·rw[if_neg e]at h;have:=C.bin i g (by omega) h;exact ⟨this.1,by omega⟩
 ·have hlt:g<w.heap.size:=by
   by_cases e:i=k
   ·subst e;simp only[if_true]at h;exact (hu g h).2.1
   ·rw[if_neg e]at h;exact (C.bin i g (by omega) h).2
  rcases hfr g e with e'|e'
  ·by_cases e2:i=k
   ·subst e2;simp only[if_true]at h;exact (hu g h).2.2 e'
   ·rw[if_neg e2]at h;exact C.ne i g (by omega) h e'
  ·omega
theorem Cds.codes(C:Cds S w cv cs k vk):CodesAt w cv ((List.range k).map cs) vk:=by
 rcases C.own.2 with ⟨rfl,h0⟩|⟨g,cap,cur,rfl,_,hg,h1,h2,h3,h4⟩
 ·subst h0;exact ⟨none,0,rfl,fun i l h=>by simp at h⟩
 ·refine ⟨some ⟨g,0,none⟩,cap,by simp,fun i l h=>?_⟩
  have hlt:i<k:=by have:=(List.getElem?_eq_some_iff.1 h).1;simpa using this
  have hl:l=cs i:=by
   rw[List.getElem?_map,List.getElem?_range hlt]at h;exact (Option.some.inj h).symm
  subst hl;refine ⟨g,0,rfl,lt_of_block hg,?_,C.at_ i hlt,fun b hb=>(C.bin i b hlt hb).2⟩;rw[cell_of_heap hg,Nat.zero_add]
  have e:cur[i]?=(cur.toList.take (k*1))[i]?:=by
   rw[List.getElem?_take,if_pos (by omega)];simp
  rw[e,h4,List.getElem?_map,List.getElem?_range hlt];rfl
end
end Go.Proofs.YtppihkneeolomaaGreatDoor
section
namespace Qc
def rowsF(g:Nat→List Int)(n:Nat):List (List Int):=(List.range n).map g
def mixF(g1 g0:Nat→List Int)(a:Nat)(i:Nat):List Int:=if i<a then g1 i else g0 i
variable {g g0 g1:Nat→List Int}{n a:Nat}
theorem rowsF_len:(rowsF g n).length=n:=by simp[rowsF]
theorem rowsF_get(h:a<n):(rowsF g n)[a]?=some (g a):=by unfold rowsF;rw[List.getElem?_map,List.getElem?_range h];rfl
theorem rowsF_none(h:n≤a):(rowsF g n)[a]?=none:=List.getElem?_eq_none (by rw[rowsF_len];exact h)
theorem rowsF_ext(h:∀i,i<n→g0 i=g1 i):rowsF g0 n=rowsF g1 n:=by
 unfold rowsF;exact List.map_congr_left fun i hi=>h i (List.mem_range.1 hi)
theorem mix_zero:rowsF (mixF g1 g0 0) n=rowsF g0 n:=rowsF_ext fun i _=>by unfold mixF;rw[if_neg (by omega)]
theorem mix_all:rowsF (mixF g1 g0 n) n=rowsF g1 n:=rowsF_ext fun i h=>by unfold mixF;rw[if_pos h]
theorem mix_get(h:a<n):(rowsF (mixF g1 g0 a) n)[a]?=some (g0 a):=by rw[rowsF_get h];unfold mixF;rw[if_neg (by omega)]
theorem mix_set(h:a<n):(rowsF (mixF g1 g0 a) n).set a (g1 a)=rowsF (mixF g1 g0 (a+1)) n:=by
 refine List.ext_getElem? fun i=>?_;rw[List.getElem?_set]
 by_cases e:a=i
 ·subst e;rw[if_pos rfl,if_pos (by rw[rowsF_len];exact h),rowsF_get h];unfold mixF;rw[if_pos (by omega)]
 ·rw[if_neg e]
  by_cases hi:i<n
  ·rw[rowsF_get hi,rowsF_get hi];unfold mixF
   by_cases h2:i<a
   ·rw[if_pos h2,if_pos (by omega)]
   ·rw[if_neg h2,if_neg (by omega)]
  ·rw[rowsF_none (by omega),rowsF_none (by omega)]
theorem rows_replicate(z:List Int):List.replicate n z=rowsF (fun _=>z) n:=by
 unfold rowsF;rw[List.map_const',List.length_range]
theorem rowsF_push:rowsF g n++[g n]=rowsF g (n+1):=by unfold rowsF;rw[List.range_succ,List.map_append];rfl
end Qc
end
namespace Go.Proofs.YtppihkneeolomaaGreatDoor
section
open Go.RowKit Qs Qh
def FourH(w:World)(v:Value)(z:List Int)(w':World):Prop:=∃b,v=.slice (some ⟨b,0,none⟩) 4 4∧w.heap.size≤b∧w'.heap[b]?=some (.cells (z.map (Value.int .i64)).toArray 3 (0,0))∧Mod noF w w'
def ownC(f:Nat):List Int:=[if f=3 then 1 else 0,0,0,0]
def lkC(f:Nat):Int:=if f=4 then -1 else 2
theorem hhub1(w:World):Calls Tryz.prog 69 #[.int .i64 1] w fun e w'=>∃v,e=.returned (.tuple #[v,.nilIface])∧FourH w v [1,0,0,0] w':=by
 go_enter Tryz.func69,Tryz.ntmps69
 go_wp2_with fail
 refine (flavours1 w).mono ?_;rintro e w1 ⟨rfl,hm1⟩;have hs1:=hm1.size;have Hm1:=Lib.hid hm1;clear hm1;go_wp2;go_ret2
 exact ⟨_,rfl,_,rfl,by first|omega|(simp;omega),by simpa using heap_alloc_new (w1.alloc (.cells #[.string ⟨#[102,101,110,99,101]⟩,.bool true,.bool false,.bool false] 139)) (.cells #[.int .i64 1,.int .i64 0,.int .i64 0,.int .i64 0] 3),(by repeat (first|exact Hm1.out|refine Mod.drew ?_|refine Mod.drewN ?_ _|refine Mod.alloc ?_ _|refine Mod.setCell ?_ (fun h=>absurd h (by have:=Hm1.out.size;simp at *;omega)) _))⟩
theorem hown1(w:World):Calls Tryz.prog 71 #[.int .i64 1] w fun e w'=>∃v,e=.returned (.tuple #[v,.nilIface])∧FourH w v [0,0,0,0] w':=by
 go_enter Tryz.func71,Tryz.ntmps71
 go_wp2_with fail
 refine (flavours1 w).mono ?_;rintro e w1 ⟨rfl,hm1⟩;have hs1:=hm1.size;have Hm1:=Lib.hid hm1;clear hm1;go_wp2;go_ret2
 exact ⟨_,rfl,_,rfl,by first|omega|(simp;omega),by simpa using heap_alloc_new (w1.alloc (.cells #[.string ⟨#[102,101,110,99,101]⟩,.bool true,.bool false,.bool false] 139)) (.cells #[.int .i64 0,.int .i64 0,.int .i64 0,.int .i64 0] 3),(by repeat (first|exact Hm1.out|refine Mod.drew ?_|refine Mod.drewN ?_ _|refine Mod.alloc ?_ _|refine Mod.setCell ?_ (fun h=>absurd h (by have:=Hm1.out.size;simp at *;omega)) _))⟩
theorem hlink1(w:World):Calls Tryz.prog 70 #[.int .i64 1] w fun e w'=>e=.returned (.tuple #[.int .i64 2,.nilIface])∧Mod noF w w':=by
 go_enter Tryz.func70,Tryz.ntmps70
 go_wp2_with fail
 refine (flavours1 w).mono ?_;rintro e w1 ⟨rfl,hm1⟩;have hs1:=hm1.size;have Hm1:=Lib.hid hm1;clear hm1;go_wp2;go_ret2
 exact ⟨rfl,(by repeat (first|exact Hm1.out|refine Mod.drew ?_|refine Mod.drewN ?_ _|refine Mod.alloc ?_ _|refine Mod.setCell ?_ (fun h=>absurd h (by have:=Hm1.out.size;simp at *;omega)) _))⟩
theorem hhub2(w:World):Calls Tryz.prog 69 #[.int .i64 2] w fun e w'=>∃v,e=.returned (.tuple #[v,.nilIface])∧FourH w v [1,0,0,0] w':=by
 go_enter Tryz.func69,Tryz.ntmps69
 go_wp2_with fail
 refine (flavours2 w).mono ?_;rintro e w1 ⟨rfl,hm1⟩;have hs1:=hm1.size;have Hm1:=Lib.hid hm1;clear hm1;go_wp2;go_ret2
 exact ⟨_,rfl,_,rfl,by first|omega|(simp;omega),by simpa using heap_alloc_new (w1.alloc (.cells #[.string ⟨#[102,111,114,99,101]⟩,.bool false,.bool false,.bool false] 139)) (.cells #[.int .i64 1,.int .i64 0,.int .i64 0,.int .i64 0] 3),(by repeat (first|exact Hm1.out|refine Mod.drew ?_|refine Mod.drewN ?_ _|refine Mod.alloc ?_ _|refine Mod.setCell ?_ (fun h=>absurd h (by have:=Hm1.out.size;simp at *;omega)) _))⟩
theorem hown2(w:World):Calls Tryz.prog 71 #[.int .i64 2] w fun e w'=>∃v,e=.returned (.tuple #[v,.nilIface])∧FourH w v [0,0,0,0] w':=by
 go_enter Tryz.func71,Tryz.ntmps71
 go_wp2_with fail
 refine (flavours2 w).mono ?_;rintro e w1 ⟨rfl,hm1⟩;have hs1:=hm1.size;have Hm1:=Lib.hid hm1;clear hm1;go_wp2;go_ret2
 exact ⟨_,rfl,_,rfl,by first|omega|(simp;omega),by simpa using heap_alloc_new (w1.alloc (.cells #[.string ⟨#[102,111,114,99,101]⟩,.bool false,.bool false,.bool false] 139)) (.cells #[.int .i64 0,.int .i64 0,.int .i64 0,.int .i64 0] 3),(by repeat (first|exact Hm1.out|refine Mod.drew ?_|refine Mod.drewN ?_ _|refine Mod.alloc ?_ _|refine Mod.setCell ?_ (fun h=>absurd h (by have:=Hm1.out.size;simp at *;omega)) _))⟩
theorem hlink2(w:World):Calls Tryz.prog 70 #[.int .i64 2] w fun e w'=>e=.returned (.tuple #[.int .i64 2,.nilIface])∧Mod noF w w':=by
 go_enter Tryz.func70,Tryz.ntmps70
 go_wp2_with fail
 refine (flavours2 w).mono ?_;rintro e w1 ⟨rfl,hm1⟩;have hs1:=hm1.size;have Hm1:=Lib.hid hm1;clear hm1;go_wp2;go_ret2
 exact ⟨rfl,(by repeat (first|exact Hm1.out|refine Mod.drew ?_|refine Mod.drewN ?_ _|refine Mod.alloc ?_ _|refine Mod.setCell ?_ (fun h=>absurd h (by have:=Hm1.out.size;simp at *;omega)) _))⟩
theorem hhub3(w:World):Calls Tryz.prog 69 #[.int .i64 3] w fun e w'=>∃v,e=.returned (.tuple #[v,.nilIface])∧FourH w v [1,0,0,0] w':=by
 go_enter Tryz.func69,Tryz.ntmps69
 go_wp2_with fail
 refine (flavours3 w).mono ?_;rintro e w1 ⟨rfl,hm1⟩;have hs1:=hm1.size;have Hm1:=Lib.hid hm1;clear hm1;go_wp2;go_ret2
 exact ⟨_,rfl,_,rfl,by first|omega|(simp;omega),by simpa using heap_alloc_new (w1.alloc (.cells #[.string ⟨#[102,101,110,99,101]⟩,.bool false,.bool false,.bool true] 139)) (.cells #[.int .i64 1,.int .i64 0,.int .i64 0,.int .i64 0] 3),(by repeat (first|exact Hm1.out|refine Mod.drew ?_|refine Mod.drewN ?_ _|refine Mod.alloc ?_ _|refine Mod.setCell ?_ (fun h=>absurd h (by have:=Hm1.out.size;simp at *;omega)) _))⟩
theorem hown3(w:World):Calls Tryz.prog 71 #[.int .i64 3] w fun e w'=>∃v,e=.returned (.tuple #[v,.nilIface])∧FourH w v [1,0,0,0] w':=by
 go_enter Tryz.func71,Tryz.ntmps71
 go_wp2_with fail
 refine (flavours3 w).mono ?_;rintro e w1 ⟨rfl,hm1⟩;have hs1:=hm1.size;have Hm1:=Lib.hid hm1;clear hm1;go_wp2;go_ret2
 exact ⟨_,rfl,_,rfl,by first|omega|(simp;omega),by simpa using heap_alloc_new (w1.alloc (.cells #[.string ⟨#[102,101,110,99,101]⟩,.bool false,.bool false,.bool true] 139)) (.cells #[.int .i64 1,.int .i64 0,.int .i64 0,.int .i64 0] 3),(by repeat (first|exact Hm1.out|refine Mod.drew ?_|refine Mod.drewN ?_ _|refine Mod.alloc ?_ _|refine Mod.setCell ?_ (fun h=>absurd h (by have:=Hm1.out.size;simp at *;omega)) _))⟩
theorem hlink3(w:World):Calls Tryz.prog 70 #[.int .i64 3] w fun e w'=>e=.returned (.tuple #[.int .i64 2,.nilIface])∧Mod noF w w':=by
 go_enter Tryz.func70,Tryz.ntmps70
 go_wp2_with fail
 refine (flavours3 w).mono ?_;rintro e w1 ⟨rfl,hm1⟩;have hs1:=hm1.size;have Hm1:=Lib.hid hm1;clear hm1;go_wp2;go_ret2
 exact ⟨rfl,(by repeat (first|exact Hm1.out|refine Mod.drew ?_|refine Mod.drewN ?_ _|refine Mod.alloc ?_ _|refine Mod.setCell ?_ (fun h=>absurd h (by have:=Hm1.out.size;simp at *;omega)) _))⟩
theorem hhub4(w:World):Calls Tryz.prog 69 #[.int .i64 4] w fun e w'=>∃v,e=.returned (.tuple #[v,.nilIface])∧FourH w v [1,0,0,0] w':=by
 go_enter Tryz.func69,Tryz.ntmps69
 go_wp2_with fail
 refine (flavours4 w).mono ?_;rintro e w1 ⟨rfl,hm1⟩;have hs1:=hm1.size;have Hm1:=Lib.hid hm1;clear hm1;go_wp2;go_ret2
 exact ⟨_,rfl,_,rfl,by first|omega|(simp;omega),by simpa using heap_alloc_new (w1.alloc (.cells #[.string ⟨#[102,101,110,99,101]⟩,.bool true,.bool true,.bool false] 139)) (.cells #[.int .i64 1,.int .i64 0,.int .i64 0,.int .i64 0] 3),(by repeat (first|exact Hm1.out|refine Mod.drew ?_|refine Mod.drewN ?_ _|refine Mod.alloc ?_ _|refine Mod.setCell ?_ (fun h=>absurd h (by have:=Hm1.out.size;simp at *;omega)) _))⟩
theorem hown4(w:World):Calls Tryz.prog 71 #[.int .i64 4] w fun e w'=>∃v,e=.returned (.tuple #[v,.nilIface])∧FourH w v [0,0,0,0] w':=by
 go_enter Tryz.func71,Tryz.ntmps71
 go_wp2_with fail
 refine (flavours4 w).mono ?_;rintro e w1 ⟨rfl,hm1⟩;have hs1:=hm1.size;have Hm1:=Lib.hid hm1;clear hm1;go_wp2;go_ret2
 exact ⟨_,rfl,_,rfl,by first|omega|(simp;omega),by simpa using heap_alloc_new (w1.alloc (.cells #[.string ⟨#[102,101,110,99,101]⟩,.bool true,.bool true,.bool false] 139)) (.cells #[.int .i64 0,.int .i64 0,.int .i64 0,.int .i64 0] 3),(by repeat (first|exact Hm1.out|refine Mod.drew ?_|refine Mod.drewN ?_ _|refine Mod.alloc ?_ _|refine Mod.setCell ?_ (fun h=>absurd h (by have:=Hm1.out.size;simp at *;omega)) _))⟩
theorem hlink4(w:World):Calls Tryz.prog 70 #[.int .i64 4] w fun e w'=>e=.returned (.tuple #[.int .i64 (-1),.nilIface])∧Mod noF w w':=by
 go_enter Tryz.func70,Tryz.ntmps70
 go_wp2_with fail
 refine (flavours4 w).mono ?_;rintro e w1 ⟨rfl,hm1⟩;have hs1:=hm1.size;have Hm1:=Lib.hid hm1;clear hm1;go_wp2;go_ret2
 exact ⟨rfl,(by repeat (first|exact Hm1.out|refine Mod.drew ?_|refine Mod.drewN ?_ _|refine Mod.alloc ?_ _|refine Mod.setCell ?_ (fun h=>absurd h (by have:=Hm1.out.size;simp at *;omega)) _))⟩
theorem hhub_any{f:Nat}(h1:1≤f)(h4:f≤4)(w:World):Calls Tryz.prog 69 #[.int .i64 f] w fun e w'=>∃v,e=.returned (.tuple #[v,.nilIface])∧FourH w v [1,0,0,0] w':=by
 match f,h1,h4 with
 |1,_,_=>exact hhub1 w
 |2,_,_=>exact hhub2 w
 |3,_,_=>exact hhub3 w
 |4,_,_=>exact hhub4 w
theorem hown_any{f:Nat}(h1:1≤f)(h4:f≤4)(w:World):Calls Tryz.prog 71 #[.int .i64 f] w fun e w'=>∃v,e=.returned (.tuple #[v,.nilIface])∧FourH w v (ownC f) w':=by
 match f,h1,h4 with
 |1,_,_=>exact hown1 w
 |2,_,_=>exact hown2 w
 |3,_,_=>exact hown3 w
 |4,_,_=>exact hown4 w
theorem hlink_any{f:Nat}(h1:1≤f)(h4:f≤4)(w:World):Calls Tryz.prog 70 #[.int .i64 f] w fun e w'=>e=.returned (.tuple #[.int .i64 (lkC f),.nilIface])∧Mod noF w w':=by
 match f,h1,h4 with
 |1,_,_=>exact hlink1 w
 |2,_,_=>exact hlink2 w
 |3,_,_=>exact hlink3 w
 |4,_,_=>exact hlink4 w
end
end Go.Proofs.YtppihkneeolomaaGreatDoor
