/- mach.New, of anything. -/
import Derived.Test.YtciaficoeajeaaaGreatDoorWSPmNewC
set_option linter.unusedVariables false
set_option linter.unusedSimpArgs false
set_option linter.unusedSectionVars false
set_option maxHeartbeats 4000000
set_option maxRecDepth 100000
namespace Go.Proofs.YtciaficoeajeaaaGreatDoor
open Go.RowKit Qs Qh
theorem pnew_mem(n:Int)(iw rw_ cw:Value)(init regs:List (List Int))(codes:List (List RI))(cv:Nat→Value)(w:World){a:Nat→Addr}(E:ErrsM w a)(hI:RowsAt0 w iw init)(hR:RowsAt0 w rw_ regs)(hC:RCodesAt w cw codes cv)
  (h:n<1∨64<n∨codes.length<1∨6<codes.length) :
  Calls Tryz.prog 10 #[.agg #[.int .i64 n,iw,rw_],cw] w fun e w'=>e=.returned (.tuple #[.pointer none,errV a 1])∧Mod noF w w':=by
 obtain ⟨wz,hwz⟩:∃wz,wz=w.alloc (.cells #[.int .i64 n,iw,rw_] 34):=⟨_,rfl⟩
 have hmz:Mod noF w wz:=by rw[hwz];exact (Mod.refl noF w).alloc _
 have hcall:Calls Tryz.prog 32 #[.int .i64 n,.int .i64 codes.length] wz fun e w'=>e=.returned (.tuple #[.pointer none,errV a 1])∧Mod noF wz w':=by
  by_cases h2:n<1∨64<n
  ·exact pmNew_cells n codes.length h2 wz (E.keep hmz).four
  ·obtain ⟨k,rfl⟩:=Int.eq_ofNat_of_zero_le (show 0≤n by omega);exact pmNew_threads k codes.length (by omega) (by omega) (by omega) wz (E.keep hmz).four
 unfold errV at hcall;have Hcall:=Lib.hid hcall;clear hcall h;obtain ⟨ia,ic,rfl,-⟩:=hI;obtain ⟨ra,rc,rfl,-⟩:=hR;obtain ⟨ca,cc,rfl,-⟩:=hC;have HE:=Lib.hid E;clear E
 have s0:wz.cell? ⟨w.heap.size,0,none⟩=some (.int .i64 n):=by rw[hwz];simp
 have s1:wz.cell? ⟨w.heap.size,1,none⟩=some (.slice ia init.length ic):=by rw[hwz];simp
 have s2:wz.cell? ⟨w.heap.size,2,none⟩=some (.slice ra regs.length rc):=by rw[hwz];simp
 have sb:w.heap.size<wz.heap.size:=by rw[hwz];simp
 have Hmz:=Lib.hid hmz;clear hmz
 go_enter Tryz.func10,Tryz.ntmps10
 go_wp2_with fail
 rw[←hwz];clear hwz;refine Hcall.out.mono ?_;rintro e w1 ⟨rfl,hm1⟩;have Hm1:=Lib.hid hm1;clear hm1 s0 s1 s2;go_wp2;go_ret2;exact ⟨rfl,Hmz.out.trans0 Hm1.out⟩
theorem pnew_len1(n:Nat)(iw rw_ cw:Value)(init regs:List (List Int))(codes:List (List RI))(cv:Nat→Value)(w:World){a:Nat→Addr}(E:ErrsM w a)(hI:RowsAt0 w iw init)(hR:RowsAt0 w rw_ regs)(hC:RCodesAt w cw codes cv)
  (h1:1≤n) (hn:n≤64) (hc1:1≤codes.length) (hc6:codes.length≤6) (h:(n:Int)<init.length) :
  Calls Tryz.prog 10 #[.agg #[.int .i64 n,iw,rw_],cw] w fun e w'=>e=.returned (.tuple #[.pointer none,errV a 1])∧Mod noF w w':=by
 obtain ⟨wz,hwz⟩:∃wz,wz=w.alloc (.cells #[.int .i64 n,iw,rw_] 34):=⟨_,rfl⟩
 have hmz:Mod noF w wz:=by rw[hwz];exact (Mod.refl noF w).alloc _
 obtain ⟨ia,ic,rfl,-⟩:=hI;obtain ⟨ra,rc,rfl,-⟩:=hR;obtain ⟨ca,cc,rfl,-⟩:=hC;have HE:=Lib.hid E;clear E
 have s0:wz.cell? ⟨w.heap.size,0,none⟩=some (.int .i64 n):=by rw[hwz];simp
 have s1:wz.cell? ⟨w.heap.size,1,none⟩=some (.slice ia init.length ic):=by rw[hwz];simp
 have s2:wz.cell? ⟨w.heap.size,2,none⟩=some (.slice ra regs.length rc):=by rw[hwz];simp
 have sb:w.heap.size<wz.heap.size:=by rw[hwz];simp
 have Hmz:=Lib.hid hmz;clear hmz
 have d1:decide ((init.length:Int)≤(n:Int))=false:=by simp;omega
 go_enter Tryz.func10,Tryz.ntmps10
 go_wp2_with fail
 rw[←hwz];clear hwz;refine (pmNew_ok n codes.length h1 hn hc1 hc6 wz).mono ?_;rintro e w1 ⟨P,rfl,-,hm1,-⟩;have q0:=hm1.cell s0 (fun e=>e);have q1:=hm1.cell s1 (fun e=>e);have q2:=hm1.cell s2 (fun e=>e);have qb:=Nat.lt_of_lt_of_le sb hm1.size;have v1:=(HE.out.keep (Hmz.out.trans0 hm1)).v1
 have Hm1:=Lib.hid hm1;clear hm1 s0 s1 s2;go_wp2
 go_quiet (fail)
 go_wp2;go_ret2;exact ⟨rfl,by first|exact (Hmz.out.trans0 Hm1.out).drewN _|exact (Hmz.out.trans0 Hm1.out).drew|exact Hmz.out.trans0 Hm1.out⟩
theorem pnew_len2(n:Nat)(iw rw_ cw:Value)(init regs:List (List Int))(codes:List (List RI))(cv:Nat→Value)(w:World){a:Nat→Addr}(E:ErrsM w a)(hI:RowsAt0 w iw init)(hR:RowsAt0 w rw_ regs)(hC:RCodesAt w cw codes cv)
  (h1:1≤n) (hn:n≤64) (hc1:1≤codes.length) (hc6:codes.length≤6) (hin:init.length≤n) (h:codes.length<regs.length) :
  Calls Tryz.prog 10 #[.agg #[.int .i64 n,iw,rw_],cw] w fun e w'=>e=.returned (.tuple #[.pointer none,errV a 1])∧Mod noF w w':=by
 obtain ⟨wz,hwz⟩:∃wz,wz=w.alloc (.cells #[.int .i64 n,iw,rw_] 34):=⟨_,rfl⟩
 have hmz:Mod noF w wz:=by rw[hwz];exact (Mod.refl noF w).alloc _
 obtain ⟨ia,ic,rfl,-⟩:=hI;obtain ⟨ra,rc,rfl,-⟩:=hR;obtain ⟨ca,cc,rfl,-⟩:=hC;have HE:=Lib.hid E;clear E
 have s0:wz.cell? ⟨w.heap.size,0,none⟩=some (.int .i64 n):=by rw[hwz];simp
 have s1:wz.cell? ⟨w.heap.size,1,none⟩=some (.slice ia init.length ic):=by rw[hwz];simp
 have s2:wz.cell? ⟨w.heap.size,2,none⟩=some (.slice ra regs.length rc):=by rw[hwz];simp
 have sb:w.heap.size<wz.heap.size:=by rw[hwz];simp
 have Hmz:=Lib.hid hmz;clear hmz
 have d1:decide ((init.length:Int)≤(n:Int))=true:=by simp;omega
 have d2:decide ((regs.length:Int)≤(codes.length:Int))=false:=by simp;omega
 go_enter Tryz.func10,Tryz.ntmps10
 go_wp2_with fail
 rw[←hwz];clear hwz;refine (pmNew_ok n codes.length h1 hn hc1 hc6 wz).mono ?_;rintro e w1 ⟨P,rfl,-,hm1,-⟩;have q0:=hm1.cell s0 (fun e=>e);have q1:=hm1.cell s1 (fun e=>e);have q2:=hm1.cell s2 (fun e=>e);have qb:=Nat.lt_of_lt_of_le sb hm1.size;have v1:=(HE.out.keep (Hmz.out.trans0 hm1)).v1
 have Hm1:=Lib.hid hm1;clear hm1 s0 s1 s2;go_wp2
 go_quiet (fail)
 go_wp2;go_ret2;exact ⟨rfl,by first|exact (Hmz.out.trans0 Hm1.out).drewN _|exact (Hmz.out.trans0 Hm1.out).drew|exact Hmz.out.trans0 Hm1.out⟩
theorem pnew_row1(n:Nat)(iw rw_ cw:Value)(init regs:List (List Int))(codes:List (List RI))(cv:Nat→Value)(w:World){a:Nat→Addr}(E:ErrsM w a)(hI:RowsAt0 w iw init)(hR:RowsAt0 w rw_ regs)(hC:RCodesAt w cw codes cv)
  (h1:1≤n) (hn:n≤64) (hc1:1≤codes.length) (hc6:codes.length≤6) (hin:init.length≤n) (hrc:regs.length≤codes.length) (hi:init.all (rightB 4)=false) :
  Calls Tryz.prog 10 #[.agg #[.int .i64 n,iw,rw_],cw] w fun e w'=>e=.returned (.tuple #[.pointer none,errV a 1])∧Mod noF w w':=by
 obtain ⟨wz,hwz⟩:∃wz,wz=w.alloc (.cells #[.int .i64 n,iw,rw_] 34):=⟨_,rfl⟩
 have hmz:Mod noF w wz:=by rw[hwz];exact (Mod.refl noF w).alloc _
 have hci1:∀W,Mod noF wz W→Calls Tryz.prog 33 #[iw,.func (.func 34) #[] #[]] W fun e w'=>e=.returned (.bool true)∧W=w':=fun W hW=>
  (containsR1 W iw init (rows_keep0 hI (hmz.trans0 hW)) (by omega)).mono fun e w' h=>⟨by rw[h.1,hi];rfl,h.2⟩
 have Hci1:=Lib.hid hci1;clear hci1;obtain ⟨ia,ic,rfl,-⟩:=hI;obtain ⟨ra,rc,rfl,-⟩:=hR;obtain ⟨ca,cc,rfl,-⟩:=hC;have HE:=Lib.hid E;clear E
 have s0:wz.cell? ⟨w.heap.size,0,none⟩=some (.int .i64 n):=by rw[hwz];simp
 have s1:wz.cell? ⟨w.heap.size,1,none⟩=some (.slice ia init.length ic):=by rw[hwz];simp
 have s2:wz.cell? ⟨w.heap.size,2,none⟩=some (.slice ra regs.length rc):=by rw[hwz];simp
 have sb:w.heap.size<wz.heap.size:=by rw[hwz];simp
 have Hmz:=Lib.hid hmz;clear hmz
 have d1:decide ((init.length:Int)≤(n:Int))=true:=by simp;omega
 have d2:decide ((regs.length:Int)≤(codes.length:Int))=true:=by simp;omega
 go_enter Tryz.func10,Tryz.ntmps10
 go_wp2_with fail
 rw[←hwz];clear hwz;refine (pmNew_ok n codes.length h1 hn hc1 hc6 wz).mono ?_;rintro e w1 ⟨P,rfl,-,hm1,-⟩;have q0:=hm1.cell s0 (fun e=>e);have q1:=hm1.cell s1 (fun e=>e);have q2:=hm1.cell s2 (fun e=>e);have qb:=Nat.lt_of_lt_of_le sb hm1.size;have v1:=(HE.out.keep (Hmz.out.trans0 hm1)).v1
 have Hm1:=Lib.hid hm1;clear hm1 s0 s1 s2
 go_wp2_with fail
 refine (Hci1.out w1 Hm1.out).mono ?_;rintro e w' ⟨rfl,rfl⟩;go_wp2
 go_quiet (fail)
 go_wp2;go_ret2;exact ⟨rfl,by first|exact (Hmz.out.trans0 Hm1.out).drewN _|exact (Hmz.out.trans0 Hm1.out).drew|exact Hmz.out.trans0 Hm1.out⟩
theorem pnew_row2(n:Nat)(iw rw_ cw:Value)(init regs:List (List Int))(codes:List (List RI))(cv:Nat→Value)(w:World){a:Nat→Addr}(E:ErrsM w a)(hI:RowsAt0 w iw init)(hR:RowsAt0 w rw_ regs)(hC:RCodesAt w cw codes cv)
  (h1:1≤n) (hn:n≤64) (hc1:1≤codes.length) (hc6:codes.length≤6) (hin:init.length≤n) (hrc:regs.length≤codes.length) (hi:init.all (rightB 4)=true) (hr:regs.all (rightB 8)=false) :
  Calls Tryz.prog 10 #[.agg #[.int .i64 n,iw,rw_],cw] w fun e w'=>e=.returned (.tuple #[.pointer none,errV a 1])∧Mod noF w w':=by
 obtain ⟨wz,hwz⟩:∃wz,wz=w.alloc (.cells #[.int .i64 n,iw,rw_] 34):=⟨_,rfl⟩
 have hmz:Mod noF w wz:=by rw[hwz];exact (Mod.refl noF w).alloc _
 have hci1:∀W,Mod noF wz W→Calls Tryz.prog 33 #[iw,.func (.func 34) #[] #[]] W fun e w'=>e=.returned (.bool false)∧W=w':=fun W hW=>
  (containsR1 W iw init (rows_keep0 hI (hmz.trans0 hW)) (by omega)).mono fun e w' h=>⟨by rw[h.1,hi];rfl,h.2⟩
 have Hci1:=Lib.hid hci1;clear hci1
 have hci2:∀W,Mod noF wz W→Calls Tryz.prog 33 #[rw_,.func (.func 36) #[] #[]] W fun e w'=>e=.returned (.bool true)∧W=w':=fun W hW=>
  (containsR2 W rw_ regs (rows_keep0 hR (hmz.trans0 hW)) (by omega)).mono fun e w' h=>⟨by rw[h.1,hr];rfl,h.2⟩
 have Hci2:=Lib.hid hci2;clear hci2;obtain ⟨ia,ic,rfl,-⟩:=hI;obtain ⟨ra,rc,rfl,-⟩:=hR;obtain ⟨ca,cc,rfl,-⟩:=hC;have HE:=Lib.hid E;clear E
 have s0:wz.cell? ⟨w.heap.size,0,none⟩=some (.int .i64 n):=by rw[hwz];simp
 have s1:wz.cell? ⟨w.heap.size,1,none⟩=some (.slice ia init.length ic):=by rw[hwz];simp
 have s2:wz.cell? ⟨w.heap.size,2,none⟩=some (.slice ra regs.length rc):=by rw[hwz];simp
 have sb:w.heap.size<wz.heap.size:=by rw[hwz];simp
 have Hmz:=Lib.hid hmz;clear hmz
 have d1:decide ((init.length:Int)≤(n:Int))=true:=by simp;omega
 have d2:decide ((regs.length:Int)≤(codes.length:Int))=true:=by simp;omega
 go_enter Tryz.func10,Tryz.ntmps10
 go_wp2_with fail
 rw[←hwz];clear hwz;refine (pmNew_ok n codes.length h1 hn hc1 hc6 wz).mono ?_;rintro e w1 ⟨P,rfl,-,hm1,-⟩;have q0:=hm1.cell s0 (fun e=>e);have q1:=hm1.cell s1 (fun e=>e);have q2:=hm1.cell s2 (fun e=>e);have qb:=Nat.lt_of_lt_of_le sb hm1.size;have v1:=(HE.out.keep (Hmz.out.trans0 hm1)).v1
 have Hm1:=Lib.hid hm1;clear hm1 s0 s1 s2
 go_wp2_with fail
 refine (Hci1.out w1 Hm1.out).mono ?_;rintro e w' ⟨rfl,rfl⟩
 go_wp2_with fail
 refine (Hci2.out w1 Hm1.out).mono ?_;rintro e w' ⟨rfl,rfl⟩;go_wp2
 go_quiet (fail)
 go_wp2;go_ret2;exact ⟨rfl,by first|exact (Hmz.out.trans0 Hm1.out).drewN _|exact (Hmz.out.trans0 Hm1.out).drew|exact Hmz.out.trans0 Hm1.out⟩
theorem rows_fine{k:Nat}{ll:List (List Int)}(h:ll.all (rightB k)=true):RowsFine k ll:=fun l hl=>by
 have:=List.all_eq_true.1 h l hl;unfold rightB at this;rw[Bool.and_eq_true,decide_eq_true_eq,List.all_eq_true]at this;exact this
def ShapeR(n:Int)(init regs:List (List Int))(codes:List (List RI)):Prop:=
 1≤n∧n≤64∧1≤codes.length∧codes.length≤6∧(init.length:Int)≤n∧regs.length≤codes.length∧init.all (rightB 4)=true∧regs.all (rightB 8)=true
theorem pnew_any(n:Int)(iw rw_ cw:Value)(init regs:List (List Int))(codes:List (List RI))(cv:Nat→Value)(w:World){a:Nat→Addr}(E:ErrsM w a)(hI:RowsAt0 w iw init)(hR:RowsAt0 w rw_ regs)(hC:RCodesAt w cw codes cv)
  (lk:∀l∈codes,l.length≤maxLen) :
  Calls Tryz.prog 10 #[.agg #[.int .i64 n,iw,rw_],cw] w fun e w'=>
   (¬ShapeR n init regs codes∧e=.returned (.tuple #[.pointer none,errV a 1])∧Mod noF w w')∨(∃k:Nat,n=k∧ShapeR n init regs codes∧(NewBad w a codes e w'∨NewGood w k init regs codes e w')):=by
 by_cases h0:n<1∨64<n∨codes.length<1∨6<codes.length
 ·exact (pnew_mem n iw rw_ cw init regs codes cv w E hI hR hC h0).mono fun e w' h=>.inl ⟨fun s=>by have:=s.1;have:=s.2.1;have:=s.2.2.1;have:=s.2.2.2.1;omega,h⟩
 ·obtain ⟨k,rfl⟩:=Int.eq_ofNat_of_zero_le (show 0≤n by omega)
  by_cases h1:(k:Int)<init.length
  ·exact (pnew_len1 k iw rw_ cw init regs codes cv w E hI hR hC (by omega) (by omega) (by omega) (by omega) h1).mono fun e w' h=>.inl ⟨fun s=>by have:=s.2.2.2.2.1;omega,h⟩
  ·by_cases h2:codes.length<regs.length
   ·exact (pnew_len2 k iw rw_ cw init regs codes cv w E hI hR hC (by omega) (by omega) (by omega) (by omega) (by omega) h2).mono fun e w' h=>.inl ⟨fun s=>by have:=s.2.2.2.2.2.1;omega,h⟩
   ·cases h3:init.all (rightB 4)with
    |false=>exact (pnew_row1 k iw rw_ cw init regs codes cv w E hI hR hC (by omega) (by omega) (by omega) (by omega) (by omega) (by omega) h3).mono fun e w' h=>.inl ⟨fun s=>(by have:=s.2.2.2.2.2.2.1;rw[h3]at this;cases this),h⟩
    |true=>
     cases h4:regs.all (rightB 8)with
     |false=>exact (pnew_row2 k iw rw_ cw init regs codes cv w E hI hR hC (by omega) (by omega) (by omega) (by omega) (by omega) (by omega) h3 h4).mono fun e w' h=>.inl ⟨fun s=>(by have:=s.2.2.2.2.2.2.2;rw[h4]at this;cases this),h⟩
     |true=>exact (pnew_main k iw rw_ cw init regs codes cv w E hI hR hC lk (by omega) (by omega) (by omega) (by omega) (by omega) (by omega) h3 h4 (rows_fine h3) (rows_fine h4)).mono fun e w' h=>.inr ⟨k,rfl,⟨by omega,by omega,by omega,by omega,by omega,by omega,h3,h4⟩,h⟩
end Go.Proofs.YtciaficoeajeaaaGreatDoor
