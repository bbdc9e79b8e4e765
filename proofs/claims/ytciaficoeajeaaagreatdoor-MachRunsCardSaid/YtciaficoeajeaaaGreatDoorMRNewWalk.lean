/- quiescentref1.NewMachine. -/
import Derived.Test.YtciaficoeajeaaaGreatDoorMRm5
import Derived.Test.YtciaficoeajeaaaGreatDoorMRm2
import Derived.OwnWalk
import Derived.BigRegion
import Derived.Outline
set_option linter.unusedVariables false
set_option linter.unusedSimpArgs false
set_option linter.unusedSectionVars false
namespace Go.Proofs.YtciaficoeajeaaaGreatDoor
open Go.RowKit Qs Qh
theorem PreRel.start{w w2:World}{bm bc bw n t:Nat}{iw rw_:Value}{init:List (List Int)}(hn:n≤64)(ht:t≤6)
  (N:NewRel (w.alloc (.cells #[.int .i64 n,iw,rw_] 24)) n t bm bc bw n w2) (g1:(w.alloc (.cells #[.int .i64 n,iw,rw_] 24)).heap.size≤bm) (g2:(w.alloc (.cells #[.int .i64 n,iw,rw_] 24)).heap.size≤bc) (g3:(w.alloc (.cells #[.int .i64 n,iw,rw_] 24)).heap.size≤bw)
  (l1:bm<(w.alloc (.cells #[.int .i64 n,iw,rw_] 24)).heap.size+3) (l2:bc<(w.alloc (.cells #[.int .i64 n,iw,rw_] 24)).heap.size+3) (l3:bw<(w.alloc (.cells #[.int .i64 n,iw,rw_] 24)).heap.size+3) (n12:bm≠bc) (n13:bm≠bw) (n23:bc≠bw) :
  PreRel w w.heap.size w2.heap.size bm iw rw_ n t init 0 (w2.alloc (.cells #[.pointer (some ⟨bm,0,none⟩),.slice none 0 0,.slice none 0 0,.int .i64 0] 53)) (newL bm bc bw ((w.alloc (.cells #[.int .i64 n,iw,rw_] 24)).heap.size+3)):=by
 have hs:=N.size
 have hW1:(w.alloc (.cells #[.int .i64 n,iw,rw_] 24)).heap.size=w.heap.size+1:=by simp
 have R:=newM_rep (τ:=ty) N.mem N.cells N.waits N.words l1 l2 l3 n12 n13 n23;have hbox:=(Mod.below N.below).heap (heap_alloc_new w (.cells #[.int .i64 n,iw,rw_] 24)) (fun e=>e)
 have hB:Below w.heap.size w w2:=(((Mod.refl noF w).alloc _).trans0 (Mod.below N.below)).toBelow;have hM:Mod noF w2 (w2.alloc (.cells #[.pointer (some ⟨bm,0,none⟩),.slice none 0 0,.slice none 0 0,.int .i64 0] 53)):=(Mod.refl _ _).alloc _
 refine ⟨?_,?_,?_,?_,rfl,fun _=>rfl,hM.heap hbox (fun e=>e),heap_alloc_new w2 _⟩
 ·rw[preM_zero];exact R.frame0 hM
 ·rw[preM_zero];exact newL_ok hn ht
 ·exact hB.trans (hM.toBelow.mono hB.size)
 ·intro k hk;rw[preM_zero]at hk;have h2:=R.lt hk;obtain ⟨a,i,hK,hso,rfl⟩:=hk
  have:(newL bm bc bw ((w.alloc (.cells #[.int .i64 n,iw,rw_] 24)).heap.size+3)).blk a i≥w.heap.size+1:=by
   simp only[memK,Bool.or_eq_true,beq_iff_eq]at hK
   rcases hK with (((rfl|rfl)|rfl)|rfl)|rfl <;> simp only[newL] <;> omega
  omega
theorem copied{w w6:World}{a b:Obj}{r:Nat}(h:Mod (fun x=>x=r) ((w.alloc a).alloc b).drew.drew w6)(hr:w.heap.size≤r):Mod noF w w6:=
 ((((Mod.refl noF w).alloc a).alloc b).drew.drew).trans h fun x hx e=>absurd e (by omega)
theorem heap2_1(w:World)(a b:Obj):((w.alloc a).alloc b).heap[w.heap.size+1]?=some b:=by
 have h0:=heap_alloc_new (w.alloc a) b
 simpa using h0
theorem src_keep{w w':World}{sp:Option Addr}{cs:List Value}(h:0<cs.length→∃ad,sp=some ad∧∀j v,cs[j]?=some v→w.cell? (ad.add j)=some v)(hM:Mod noF w w') :
  0<cs.length→∃ad,sp=some ad∧∀j v,cs[j]?=some v→w'.cell? (ad.add j)=some v:=fun h0=>by
 obtain ⟨ad,e,hx⟩:=h h0;exact ⟨ad,e,fun j x hj=>hM.cell (hx j x hj) (fun e=>e)⟩
theorem thr_one(a:Option Addr)(b c r:Nat):∀u∈[Value.slice a b c,.slice (some ⟨r,0,none⟩) 8 8,.int .i64 0],u.oneCell'=true:=by
 intro u hu;simp at hu
 rcases hu with rfl|rfl|rfl <;> rfl
theorem ThrRel.vown_ne{W wr:World}{S bs b0 bm n k:Nat}{iw rw_ v:Value}{L:Lay}{m1:M}{regs:List (List Int)}{cv:Nat→Value}{rb:Nat→Nat}(h:ThrRel W S bs b0 bm iw rw_ n L m1 regs cv k v rb wr)(hb:b0<S):¬v.ownBlock=some b0:=fun e=>by
 have:=h.vown _ e;omega
theorem owns_keep{w w':World}{T:TypeId}{sz k:Nat}{v:Value}{xs:List Value}(h:w.ownsRow 0 T sz v k xs)(hM:Mod noF w w'):w'.ownsRow 0 T sz v k xs:=by
 refine ⟨h.1,?_⟩
 rcases h.2 with e|⟨g,cap,cur,rfl,h0,hg,r⟩
 ·exact .inl e
 ·exact .inr ⟨g,cap,cur,rfl,h0,hM.heap hg (fun e=>e),r⟩
theorem heap2_0(w:World)(a b:Obj):((w.alloc a).alloc b).heap[w.heap.size]?=some a:=by
 have h0:=heap_alloc_new w a;exact (Below.heap_alloc (w.alloc a) b _ (lt_of_block h0)).trans h0
theorem thrInfo:(Tryz.prog.info? 48).map (fun i=>(i.zero,i.size,i.bytes))=some (some (.agg #[.slice none 0 0,.slice none 0 0,.int .i64 0]),3,56):=by kernel_rfl
theorem ThrRel.start{w wr:World}{bs b0 bm n:Nat}{iw rw_:Value}{L:Lay}{t:Nat}{init:List (List Int)}{i:Nat}(P:PreRel w bs b0 bm iw rw_ n t init i wr L)(regs:List (List Int))(cv:Nat→Value) :
  ThrRel w wr.heap.size bs b0 bm iw rw_ n L (preM n t init i) regs cv 0 (.slice none 0 0) (fun _=>0) wr:=
 ⟨P.rep,P.below,Nat.le_refl _,P.mach,P.box,World.ownsRow_nil wr 0 _ 3,(fun g h=>by cases h),(fun i h=>absurd h (by omega)),(fun i h=>absurd h (by omega)),(fun i j h=>absurd h (by omega)),(fun g i h=>by cases h)⟩
theorem PreRel.given{W wr w5:World}{bs b0 bm n t k:Nat}{iw rw_:Value}{init:List (List Int)}{L:Lay}(P:PreRel W bs b0 bm iw rw_ n t init k wr L)(hk:k<n)
  (R1:Rep ty memK w5 (L.words k (wr.heap.size+1)) {(preM n t init k)with cells:=(preM n t init k).cells.set k (zeroCell (0+1))}) :
  w5.cell? ⟨bm,0,none⟩=some (.slice (some ⟨L.blk 2 0,0,none⟩) n (n+L.sp 2 0))∧w5.cell? ⟨L.blk 2 0,k*3,none⟩=some (.slice (some ⟨wr.heap.size+1,0,none⟩) 4 4)∧
  w5.heap[wr.heap.size+1]?=some (.cells [Value.int .i64 0,.int .i64 0,.int .i64 0,.int .i64 0].toArray 3 (0,0))∧bm<w5.heap.size∧L.blk 2 0<w5.heap.size:=by
 have hgt:({(preM n t init k)with cells:=(preM n t init k).cells.set k (zeroCell (0+1))}:M).cells[k]?=some (zeroCell 1):=by
  show ((preM n t init k).cells.set k (zeroCell (0+1)))[k]?=_;rw[List.getElem?_set];simp[preM_len,hk]
 have ol':=words_ok (i:=k) (b:=wr.heap.size+1) (t:=0+1) P.ol;have c0:=R1.cells_at rfl ol';have c1:=(R1.cell_at rfl ol' hgt).1
 have e10:(L.words k (wr.heap.size+1)).blk 1 0=bm:=by rw[words_blk L k _ 1 0 (by omega)];exact P.top
 have e20:(L.words k (wr.heap.size+1)).blk 2 0=L.blk 2 0:=words_blk L k _ 2 0 (by omega)
 have e60:(L.words k (wr.heap.size+1)).blk 6 k=wr.heap.size+1:=by simp[Lay.words]
 have es2:(L.words k (wr.heap.size+1)).sp 2 0=L.sp 2 0:=by simp[Lay.words]
 have es6:(L.words k (wr.heap.size+1)).sp 6 k=0:=by simp[Lay.words]
 have el:({(preM n t init k)with cells:=(preM n t init k).cells.set k (zeroCell (0+1))}:M).cells.length=n:=by
  show ((preM n t init k).cells.set k (zeroCell (0+1))).length=n;simp[preM_len]
 rw[e10,e20,es2,el]at c0;rw[e20,e60,es6]at c1;have ho6:=obj6 ty (L:=L.words k (wr.heap.size+1)) (by simp[Lay.words]) hgt;have h6:=R1.at_ 6 k _ _ rfl ho6;rw[e60]at h6;have l1:=R1.lt1 rfl;have l2:=R1.lt2 rfl ol';rw[e10]at l1;rw[e20]at l2;refine ⟨c0,c1,?_,l1,l2⟩;refine Eq.trans h6 ?_
 simp[Lay.words,zeroCell,iv];rfl
theorem ThrRel.quiet{W wr w':World}{S bs b0 bm n k:Nat}{iw rw_ v:Value}{L:Lay}{m1:M}{regs:List (List Int)}{cv:Nat→Value}{rb:Nat→Nat}(h:ThrRel W S bs b0 bm iw rw_ n L m1 regs cv k v rb wr)(hq:Mod noF wr w'):ThrRel W S bs b0 bm iw rw_ n L m1 regs cv k v rb w':=
 ⟨h.rep.frame0 hq,h.below.trans (hq.toBelow.mono h.below.size),Nat.le_trans h.size hq.size,hq.heap h.mach (fun e=>e),hq.heap h.box (fun e=>e),owns_keep h.row hq,h.vown,fun i hi=>hq.heap (h.regs_ i hi) (fun e=>e),h.rbs,h.inj,h.vne⟩
end Go.Proofs.YtciaficoeajeaaaGreatDoor
