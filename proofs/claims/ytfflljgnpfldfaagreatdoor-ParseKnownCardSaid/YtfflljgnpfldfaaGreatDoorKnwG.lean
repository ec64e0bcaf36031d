/-
  ParseKnown: its parts joined.
-/
import Derived.Test.YtfflljgnpfldfaaGreatDoorAloA
import Derived.Test.YtfflljgnpfldfaaGreatDoorPfsB
set_option linter.all false
set_option maxHeartbeats 128000000
set_option maxRecDepth 100000
namespace Go.Proofs.YtfflljgnpfldfaaGreatDoor
open Go.Proofs.Tryz
open Go.RowKit Go.Shelf
def Wp:List UInt8:=[66,85,95,58,32,66,79,95,32,50,49,52,55,52,56,51,54,52,57,32,77,58,32,48,32,65]
def Wq:List UInt8:=[66,85,95,58,32,67,77,95,32,66,79,95,32,55,32,34,120,34,32,59,32,86,65,76,95,32,50,53,54,32,120,32,48,32,34,111,102,102,34,32,45,49,32,34,111,110,34,32,59]
def Gc:aS:=⟨false,⟨0,0,[]⟩,⟨1,1,[]⟩,[⟨1,6,1,true,[77],0,[65],[]⟩],[]⟩
def Jn:aS:=⟨false,⟨0,0,[]⟩,⟨1,1,[]⟩,[],[⟨1,22,256,false,[120],[(0,[111,102,102]),(-1,[111,110])]⟩]⟩
theorem amq:jX Wp=.good (bI Gc):=aj
theorem amr:jX Wq=.good (bI Jn):=aj
theorem ams:oy Gc 1048577 where
 DN:=ah
 xu:=ah
 msg:=by
  intro m hm;simp only[Gc,oY]at hm;subst hm;exact⟨ah,fun x hx=>by cases hx⟩
 xw:=ah
 tab:=by intro t ht;cases ht
theorem amt:oy Jn 1048577 where
 DN:=ah
 xu:=ah
 msg:=by intro t ht;cases ht
 xw:=ah
 tab:=by
  intro m hm;simp only[Jn,oY]at hm;subst hm;decide
theorem amu {w:World} {k:Nat} {C:Array Value} (hC:rf w Gc C.toList) (hk:ai w k C) :
  ∃ (b o c:Nat),w.cell? ⟨k,7,none⟩=some (.slice (some ⟨b,o,none⟩) 1 c)∧w.cell? ⟨b,o+3,none⟩=some (.bool true)∧w.cell? ⟨b,o+2,none⟩=some (.int .u32 1):=by
 obtain⟨pa,pn,pb,pm,pc,pt,eC,hN,hM,hT⟩:=hC;have hc:=eA.1 eC;obtain⟨b,o,rfl,-,cs,h8,⟨a2,c2,rfl,hs⟩,hr⟩:=hM.at ah (k:=0) ah;refine⟨b,o,pm,hk.cell 7 _ ow,?_,?_⟩
 ·have:=hr 3 _ rfl
  simpa [Gc]using this
 ·have:=hr 2 _ rfl
  simpa [Gc]using this
theorem amv {w:World} {k:Nat} {C:Array Value} (hC:rf w Jn C.toList) (hk:ai w k C) :
  ∃ (b o c c2:Nat) (a2:Option Addr),w.cell? ⟨k,8,none⟩=some (.slice (some ⟨b,o,none⟩) 1 c)∧w.cell? ⟨b,o+5,none⟩=some (.slice a2 2 c2)∧bA w fS 2 a2 c2 [(0,[111,102,102]),(-1,[111,110])]:=by
 obtain⟨pa,pn,pb,pm,pc,pt,eC,hN,hM,hT⟩:=hC;have hc:=eA.1 eC;obtain⟨b,o,rfl,-,cs,h8,⟨a2,c2,rfl,hs⟩,hr⟩:=hT.at ah (k:=0) ah;refine⟨b,o,pt,c2,a2,hk.cell 8 _ ow,?_,hs⟩;have:=hr 5 _ rfl
 simpa [Jn]using this
theorem amw (w:World) (hW:eR w) :
  Calls prog 4 #[] w fun e w'=>e=.returned (.bool true)∧Below w.heap.size w w':=by
 have HW:=Qh (fun W (h:Below w.heap.size w W)=>hW.keep h);have cR:=FA Wp ah Gc ams (fun _=>rfl) amq w hW;have vV:=FA Wq ah Jn amt (fun _=>rfl) amr;simp only[Wp]at cR;simp only[Wq]at vV;clear hW;go_enter func4,ntmps4
 go_wp2_with fail;refine A5 cR ?_;intro w1 C hC hb uB gN;have HB:=Qh (hb.alloc hb.size (.cells C 33));have hC2:=vS _ _ _ _ hC ((aC _ _).alloc af (.cells C 33));have bk1:=ai.new w1 C 33;clear cR hC hb;go_upto_region 2 with (refine eX (Z:=bf) (cs:=C) 33 (.tmp 1) (.tmp 7) Ff Dg gN ?_)
 generalize w1.alloc (.cells C 33)=W1 at *;generalize w1.heap.size=k1 at *;clear uB gN;have cR:=vV W1 (HW.o _ HB.o);clear vV;go_wp2_with fail;refine A5 cR ?_;intro w2 C2 hD hb uB gN;have hb2:=hb.alloc hb.size (.cells C2 33);have aM:=Qh (aH HB.o hb2 af);have L6:=vS _ _ _ _ hD ((aC _ _).alloc af (.cells C2 33));have hC3:=vS _ _ _ _ hC2 hb2;have bk2:=bk1.keep hb2 af;have bk3:=ai.new w2 C2 33;clear cR hD hb hb2 hC2 bk1 HB;go_upto_region 3 with (refine eX (Z:=bf) (cs:=C2) 33 (.tmp 3) (.tmp 11) Ff Dg gN ?_)
 generalize w2.alloc (.cells C2 33)=W2 at *;generalize w2.heap.size=k2 at *;clear uB gN;have cW:=zK W2 (HW.o _ aM.o);go_wp2_with fail;refine Lf cW ?_;intro w3 hb bT;obtain⟨b,o,c,f1,f2,f3⟩:=amu (tA (vS _ _ _ _ hC3 hb)) (bk2.keep hb af);obtain⟨b2,o2,c2,d2,a2,g1,g2,hs⟩:=amv (tA (vS _ _ _ _ L6 hb)) (bk3.keep hb af);clear cW hb hC3 L6 bk2 bk3 aM;have dC:=(aC w3.heap.size w3).alloc af (.cells #[.int .i64 0,.string ⟨#[111,102,102]⟩,.int .i64 (-1),.string ⟨#[111,110]⟩] 45);have hs2:=bA.lit w3 fS 2 (fun _=>rfl) [(0,[111,102,102]),(-1,[111,110])] #[.int .i64 0,.string ⟨#[111,102,102]⟩,.int .i64 (-1),.string ⟨#[111,110]⟩] 45 2 rfl rfl ah;have cS:=aey [(0,[111,102,102]),(-1,[111,110])] 2 2 rfl rfl _ _ _ _ _ (hs.keep dC af) hs2;have fe:=Qh (aH bT.o dC af);clear hs hs2 dC bT;go_wp2_with fail;refine aQ cS ?_;intro w4 hb;have ir:=Qh (aH fe.o hb af);clear cS hb fe;have cK:=yj [] ah 2 1 ah ah aj _ (HW.o _ ir.o);go_wp2_with fail;refine aQ cK ?_;intro x0 hb;have mg:=Qh (aH ir.o hb af);clear cK hb ir;have cK:=yj [66,85,95] ah 2 4 ah ah aj _ (HW.o _ mg.o);go_wp2_with fail;refine aQ cK ?_;intro x1 hb;have nG:=Qh (aH mg.o hb af);clear cK hb mg;have cK:=yj [66,85,95,58,32,66,85,95,58] ah 4 6 ah ah aj _ (HW.o _ nG.o);go_wp2_with fail;refine aQ cK ?_;intro x2 hb;have DF:=Qh (aH nG.o hb af);clear cK hb nG;have cK:=yj [66,85,95,58,32,86,69,82,83,73,79,78,32,34,49,34] ah 4 6 ah ah aj _ (HW.o _ DF.o);go_wp2_with fail;refine aQ cK ?_;intro x3 hb;have FP:=Qh (aH DF.o hb af);clear cK hb DF;have cK:=yj [66,85,95,58,32,66,79,95,32,49,46,53,32,77,58,32,56,32,65] ah 8 10 ah ah aj _ (HW.o _ FP.o);go_wp2_with fail;refine aQ cK ?_;intro x4 hb;have Ws:=Qh (aH FP.o hb af);clear cK hb FP;have cK:=yj [66,85,95,58,32,66,79,95,32,48,48,55,32,77,58,32,56,32,65] ah 8 10 ah ah aj _ (HW.o _ Ws.o);go_wp2_with fail;refine aQ cK ?_;intro x5 hb;have Wu:=Qh (aH Ws.o hb af);clear cK hb Ws;have cK:=yj [66,85,95,58,32,66,79,95,32,52,50,57,52,57,54,55,50,57,54,32,77,58,32,56,32,65] ah 8 10 ah ah aj _ (HW.o _ Wu.o);go_wp2_with fail;refine aQ cK ?_;intro x6 hb;have Wv:=Qh (aH Wu.o hb af);clear cK hb Wu;have cK:=yj [66,85,95,58,32,66,79,95,32,49,32,66,79,95,58,32,56,32,65] ah 4 12 ah ah aj _ (HW.o _ Wv.o)
 go_wp2_with fail;refine aQ cK ?_;intro x7 hb;have Ww:=Qh (aH Wv.o hb af);clear cK hb Wv;have cK:=yj [66,85,95,58,32,66,79,95,32,49,32,77,32,56,32,65] ah 4 14 ah ah aj _ (HW.o _ Ww.o);go_wp2_with fail;refine aQ cK ?_;intro x8 hb;have Wx:=Qh (aH Ww.o hb af);clear cK hb Ww;have cK:=yj [66,85,95,58,32,86,65,76,95,32,49,32,120,32,48,32,59] ah 4 17 ah ah aj _ (HW.o _ Wx.o);go_wp2_with fail;refine aQ cK ?_;intro x9 hb;have Wy:=Qh (aH Wx.o hb af);clear cK hb Wx;have cK:=yj [66,85,95,58,32,86,65,76,95,32,49,32,120,32,57,50,50,51,51,55,50,48,51,54,56,53,52,55,55,53,56,48,56,32,34,97,34,32,59] ah 8 15 ah ah aj _ (HW.o _ Wy.o);go_wp2_with fail;refine aQ cK ?_;intro x10 hb;have amx:=Qh (aH Wy.o hb af);clear cK hb Wy;go_wp2_with fail;go_ret;exact⟨rfl,amx.o⟩
theorem aqE (L K:Int) (C:Array Value) (h0:C[0]? = some (.int .i64 L)) (h1:C[1]? = some (.int .i64 K)) (w:World) :
  Calls prog 296 #[.agg C] w fun e w'=>e=.returned (.agg #[.int .i64 L,.int .i64 K])∧Below w.heap.size w w':=by
 have hb:=ai.new w C 39;have c0:=hb.cell 0 _ h0;have c1:=hb.cell 1 _ h1;have ix:=(aC w.heap.size w).alloc af (.cells C 39);have hsz:(w.alloc (.cells C 39)).heap.size=w.heap.size+1:=aB;have HB:=Qh ix;clear ix hb;go_enter func296,ntmps296
 go_upto_region 1 with fail
 generalize w.alloc (.cells C 39)=W at *;obtain⟨k,hk⟩:∃ k,k=w.heap.size:=⟨_,rfl⟩
 rw[← hk]at hsz c0 c1 ⊢;have Ah:=Qh hk;clear hk;go_wp2_with fail;have hbl:ai (W.alloc (.cells #[.int .i64 L,.int .i64 K] 24)) (k+1) #[.int .i64 L,.int .i64 K]:=PW;have hrun:=fo hbl 24 _ underlying24 rfl aj;exact bB (v:=.agg #[.int .i64 L,.int .i64 K]) (by simp[results,results296,asAddr,hrun]) rfl ⟨rfl,HB.o.alloc HB.o.size _⟩
theorem aqD (C : Array Value) (w : World) : (invoke (.fn (.method "Where") #[]) #[.iface 39 (.agg C)]).run prog w = .ok (.enter 296 #[.agg C]) w := by kernel_rfl
theorem aqA (L K:Int) (C:Array Value) (h0:C[0]? = some (.int .i64 L)) (h1:C[1]? = some (.int .i64 K)) (w:World) :
  Calls prog 294 #[.agg C] w fun e w'=>e=.returned (.agg #[.int .i64 L,.int .i64 K])∧Below w.heap.size w w':=by
 have hb:=ai.new w C 26;have c0:=hb.cell 0 _ h0;have c1:=hb.cell 1 _ h1;have ix:=(aC w.heap.size w).alloc af (.cells C 26);have hsz:(w.alloc (.cells C 26)).heap.size=w.heap.size+1:=aB;have HB:=Qh ix;clear ix hb;go_enter func294,ntmps294
 go_upto_region 1 with fail
 generalize w.alloc (.cells C 26)=W at *;obtain⟨k,hk⟩:∃ k,k=w.heap.size:=⟨_,rfl⟩
 rw[← hk]at hsz c0 c1 ⊢;have Ah:=Qh hk;clear hk;go_wp2_with fail;have hbl:ai (W.alloc (.cells #[.int .i64 L,.int .i64 K] 24)) (k+1) #[.int .i64 L,.int .i64 K]:=PW;have hrun:=fo hbl 24 _ underlying24 rfl aj;exact bB (v:=.agg #[.int .i64 L,.int .i64 K]) (by simp[results,results294,asAddr,hrun]) rfl ⟨rfl,HB.o.alloc HB.o.size _⟩
theorem aqz (C : Array Value) (w : World) : (invoke (.fn (.method "Where") #[]) #[.iface 26 (.agg C)]).run prog w = .ok (.enter 294 #[.agg C]) w := by kernel_rfl
theorem aqC (L K:Int) (C:Array Value) (h0:C[0]? = some (.int .i64 L)) (h1:C[1]? = some (.int .i64 K)) (w:World) :
  Calls prog 295 #[.agg C] w fun e w'=>e=.returned (.agg #[.int .i64 L,.int .i64 K])∧Below w.heap.size w w':=by
 have hb:=ai.new w C 29;have c0:=hb.cell 0 _ h0;have c1:=hb.cell 1 _ h1;have ix:=(aC w.heap.size w).alloc af (.cells C 29);have hsz:(w.alloc (.cells C 29)).heap.size=w.heap.size+1:=aB;have HB:=Qh ix;clear ix hb;go_enter func295,ntmps295
 go_upto_region 1 with fail
 generalize w.alloc (.cells C 29)=W at *;obtain⟨k,hk⟩:∃ k,k=w.heap.size:=⟨_,rfl⟩
 rw[← hk]at hsz c0 c1 ⊢;have Ah:=Qh hk;clear hk;go_wp2_with fail;have hbl:ai (W.alloc (.cells #[.int .i64 L,.int .i64 K] 24)) (k+1) #[.int .i64 L,.int .i64 K]:=PW;have hrun:=fo hbl 24 _ underlying24 rfl aj;exact bB (v:=.agg #[.int .i64 L,.int .i64 K]) (by simp[results,results295,asAddr,hrun]) rfl ⟨rfl,HB.o.alloc HB.o.size _⟩
theorem aqB (C : Array Value) (w : World) : (invoke (.fn (.method "Where") #[]) #[.iface 29 (.agg C)]).run prog w = .ok (.enter 295 #[.agg C]) w := by kernel_rfl
theorem aqG (L K:Int) (C:Array Value) (h0:C[0]? = some (.int .i64 L)) (h1:C[1]? = some (.int .i64 K)) (w:World) :
  Calls prog 297 #[.agg C] w fun e w'=>e=.returned (.agg #[.int .i64 L,.int .i64 K])∧Below w.heap.size w w':=by
 have hb:=ai.new w C 43;have c0:=hb.cell 0 _ h0;have c1:=hb.cell 1 _ h1;have ix:=(aC w.heap.size w).alloc af (.cells C 43);have hsz:(w.alloc (.cells C 43)).heap.size=w.heap.size+1:=aB;have HB:=Qh ix;clear ix hb;go_enter func297,ntmps297
 go_upto_region 1 with fail
 generalize w.alloc (.cells C 43)=W at *;obtain⟨k,hk⟩:∃ k,k=w.heap.size:=⟨_,rfl⟩
 rw[← hk]at hsz c0 c1 ⊢;have Ah:=Qh hk;clear hk;go_wp2_with fail;have hbl:ai (W.alloc (.cells #[.int .i64 L,.int .i64 K] 24)) (k+1) #[.int .i64 L,.int .i64 K]:=PW;have hrun:=fo hbl 24 _ underlying24 rfl aj;exact bB (v:=.agg #[.int .i64 L,.int .i64 K]) (by simp[results,results297,asAddr,hrun]) rfl ⟨rfl,HB.o.alloc HB.o.size _⟩
theorem aqF (C : Array Value) (w : World) : (invoke (.fn (.method "Where") #[]) #[.iface 43 (.agg C)]).run prog w = .ok (.enter 297 #[.agg C]) w := by kernel_rfl
theorem oJ.fn {s:List UInt8} {n:Nat} {M:List Mark} (h:oJ s n M):∃ f:Nat→Nat,(∀ j (hj:j < M.length),Ki s M[j] (f j))∧∀ i j,i < j→j < M.length→f i < f j:=by
 obtain⟨ks,h1,h2,-⟩:=h;have hl:=h1.len;refine⟨fun j=>ks.getD j 0,fun j hj=>?_,fun i j uV hj=>?_⟩
 ·have:=h1.get hj ae
  simpa [List.getD,show j < ks.length by omega]using this
 ·have:=(List.pairwise_iff_getElem.1 h2) i j ae ae uV
  simpa [List.getD,show j < ks.length by omega,show i < ks.length by omega]using this
theorem aqu (y:aX):0 < (ji y).1.length:=by cases y<;>simp[ji]
theorem aqr {w : World} {y : aX} {cs : List Value} (h : wu w y cs) : ∃ (v : Value) (f : FuncId) (C : Array Value), cs = [v] ∧ (∀ W : World, (invoke (.fn (.method "Where") #[]) #[v]).run prog W = .ok (.enter f #[.agg C]) W) ∧
  ∀ W:World,Calls prog f #[.agg C] W fun e w'=>e=.returned (.agg #[.int .i64 (ji y).2.1,.int .i64 (ji y).2.2])∧Below W.heap.size W w':=by
 cases y with
 | bG v=>exact⟨_,_,_,h,aqz _,aqA _ _ _ rfl rfl⟩
 | aR s=>
  obtain⟨C,h1,a,c,h2,-⟩:=h;have hc:=eA.1 h2;exact⟨_,_,_,h1,aqB _,aqC _ _ _ ow ow⟩
 | msg m=>
  obtain⟨C,h1,a,c,h2,-⟩:=h;have hc:=eA.1 h2;exact⟨_,_,_,h1,aqD _,aqE _ _ _ ow ow⟩
 | tab t=>
  obtain⟨C,h1,a,c,h2,-⟩:=h;have hc:=eA.1 h2;exact⟨_,_,_,h1,aqF _,aqG _ _ _ ow ow⟩
theorem aqv {P:Program} {ops:Array Oper} {C:World→Prop} {Q:Act→Prop} {rest:List Oper} {o:Oper} {a:Act} {name:String} {v r:Value} {f:FuncId} {args:Array Value} (x:Operand) {ts:Array TypeId}
  (hi:∀ w:World,(invoke (.fn (.method name) #[]) #[v]).run P w=.ok (.enter f args) w)
  (hc:∀ w,C w→Calls P f args w fun e w'=>e=.returned r∧C w')
  (h:wpQuiet P ops C Q rest (a.put o.dst r))
  (ho:o.op=.call { callee:=.invoke x name,args:=#[],argTypes:=ts }:=by rfl) (hx:a.eval x=v:=by rfl) (hgd:Region.wanted o (yielded ops a.tmps)=true:=by rfl):wpQuiet P ops C Q (o::rest) a:=by
 unfold wpQuiet;rw[if_pos hgd];refine⟨r,fun w hw=>?_,h⟩;unfold Oper.quietAt;have e:(execOp a.eval o).run P w=.ok (.enter f args) w:=by
  unfold execOp;simp only[ho,resolve,hx,rT,Sem.run_pure,Fu];have e0:(#[v]++Array.map a.eval #[]:Array Value)=#[v]:=aB;rw[e0];exact hi w
 rw[e];exact⟨rfl,hc w hw⟩
theorem amD (s:List UInt8) (T:TypeId) (x:Value) (cF:∀ w,eR w→Calls prog 19 #[.string ⟨s.toArray⟩] w fun e w'=>e=.returned (.tuple #[.slice none 0 0,.iface T x])∧Below w.heap.size w w') (w:World) (hW:eR w) :
  Calls prog 18 #[.string ⟨s.toArray⟩] w fun e w'=>e=.returned (.bool true)∧Below w.heap.size w w':=by
 have HW:=Qh hW;clear hW;go_enter func18,ntmps18
 go_wp2_with fail;refine aQ (cF _ HW.o) ?_;intro w1 hb
 replace HW:=Qh (HW.o.keep hb);have HB:=Qh hb;clear hb cF;go_wp2_with fail;refine CW (zK _ HW.o) ?_;intro w2 hb HW HB
 clear hb;exact OS (zK _ HW.o)
theorem aqq {w:World} {aa:Option Addr} {ca:Nat} {l:List aX} (h:ei w wu 1 aa ca l) (h0:0 < l.length) :
  ∃ nb no, aa = some ⟨nb, no, none⟩ ∧ ∀ j (hj : j < l.length), ∃ (v : Value) (f : FuncId) (C : Array Value), w.cell? ⟨nb, no + j, none⟩ = some v ∧ (∀ W : World, (invoke (.fn (.method "Where") #[]) #[v]).run prog W = .ok (.enter f #[.agg C]) W) ∧
   ∀ W:World,Calls prog f #[.agg C] W fun e w'=>e=.returned (.agg #[.int .i64 (ji l[j]).2.1,.int .i64 (ji l[j]).2.2])∧Below W.heap.size W w':=by
 obtain⟨nb,no,rfl,-⟩:=h.at ah h0;refine⟨nb,no,rfl,fun j hj=>?_⟩;obtain⟨b,o,e,-,cs,hl,hr,hg⟩:=h.at ah hj;cases e
 obtain⟨v,f,C,rfl,h1,h2⟩:=aqr hr;exact⟨v,f,C,by simpa using hg 0 v rfl,h1,h2⟩
theorem amE (s:List UInt8) (hs:s.length≤1048576) (d:aS) (hd:oy d 1048577) (hv:tq d) (hst:oJ s 0 ((bI d).flatMap Gd))
  (cF:∀ w,eR w→Calls prog 19 #[.string ⟨s.toArray⟩] w fun e w'=>∃ (v:Value) (T:List (aX×Nat×Nat)),e=.returned (.tuple #[v,.nilIface])∧aZ w' w.heap.size 98 qa 1 v T∧T.map Prod.fst=bI d∧fK w.heap.size T w'.heap.size∧Below w.heap.size w w')
  (w:World) (hW:eR w) :
  Calls prog 18 #[.string ⟨s.toArray⟩] w fun e w'=>e=.returned (.bool true)∧Below w.heap.size w w':=by
 obtain⟨f0,hf0,jk⟩:=(hst.sub (aqs (bI d))).fn;have BF:=hd.xu;have tu:=hd.xw;have Vf:=Qh (fun m hm=>(hd.msg m hm).1);have HG:Hid (∀ m∈d.msgs,∃ f:Nat→Nat,(∀ j (hj:j < (Ck m).length),Ki s (Ck m)[j] (f j))∧∀ i j,i < j→j < (Ck m).length→f i < f j):=Qh fun m hm=>(hst.sub (aqt (by
  unfold bI;exact List.mem_append_right _ (Dj _ (List.mem_append_left _ (List.mem_map_of_mem hm)))))).fn
 obtain⟨N,hN⟩:∃ N,N=(bI d).length:=⟨_,rfl⟩
 have hNb:N≤2000000:=(by have:=Qc hd;omega);have qJ:=Qh hN;have Av:0 < N:=(by rw[hN];unfold bI;simp;omega);refine fQ hW hf0 jk (fun (W:World) (n:Nat) (hn:n=(bI d).length) a cap iQ=>agC d hd hv n hn a cap W iQ) ?_;intro HW HF0 gP cG
 have cP:=fun (W:World) C hC=>Vg d ae ae C W hC
 have cB:=fun (W:World) (n:Nat) (hn:n < s.length) (L C:Int) (hb:eN s (1,1) n (L,C))=>Vh s ae n hn L C hb W
 have cS:=fun (W:World) (t:List UInt8) (k:Nat) (hk:k+t.length≤s.length) (ht:(s.drop k).take t.length=t)=>ajX s t ae k hk ht W
 clear hd hv hst hW hf0 jk hN tu;go_enter func18,ntmps18
 go_wp2_with fail;refine aI (cF _ HW.o) ?_
 rintro e w1 ⟨va,TA,rfl,tR,GH,JP,hb⟩;obtain⟨aa,ca,Nx,-⟩:=tR.shape;rw[show TA.length=N by rw[qJ.o,← GH,iw]]at Nx;subst Nx;have HS:=Qh (agD tR GH);replace HW:=Qh (HW.o.keep hb);have HB:=Qh hb;clear hb tR GH JP cF;go_wp2_with fail;refine aQ (zK _ HW.o) ?_;intro w2 hb
 replace HS:=Qh (HS.o.keep B3 hb);replace HB:=Qh (aH HB.o hb af);clear hb HW;go_wp2_with fail;refine A5 (cG _ _ qJ.o _ _ HS.o) ?_;intro w3 C hC hb uB gN
 replace HS:=Qh (HS.o.keep B3 hb);replace HB:=Qh (aH HB.o hb af);have dC:=(aC w3.heap.size w3).alloc af (.cells C 33);have HC:=Qh (tA (vS _ _ _ _ hC dC));have bO:=ai.new w3 C 33;replace HS:=Qh (HS.o.keep B3 dC);replace HB:=Qh (aH HB.o dC af);have hu:=underlying33;clear hC hb cG dC;go_upto_region 7 with (refine eX (Z:=bf) (cs:=C) 33 (.tmp 5) (.tmp 35) Ff Dg gN ?_)
 generalize w3.alloc (.cells C 33)=w4 at *;generalize w3.heap.size=k5 at *;clear gN;go_wp2_with (refine fG bO 33 (.tmp 5) hu Fh ?_)
 refine aI (cP _ _ HC.o) ?_
 rintro e w5 ⟨l,u,rfl,h2⟩;obtain⟨la,lc,e1,-⟩:=h2.pl.shape;subst e1;obtain⟨ua,uc,e1,-⟩:=h2.wd.shape;subst e1;obtain⟨-,-,lb,lo,ub,uo,rfl,rfl,Dr⟩:=Vl h2 (by rw[iw,← qJ.o];omega);have xC:=Qh Dr;have hb:=h2.cL;obtain⟨nb,no,rfl,LP⟩:=aqq (HS.o.keep B3 hb) (by rw[← qJ.o];omega);have HNC:=Qh LP;have kH:((bI d).map ji).length=N:=(by rw[iw,qJ.o]);rw[kH];have q9:=Qh kH;replace HC:=Qh (vT _ _ _ _ HC.o hb);replace HB:=Qh (aH HB.o hb af);have HK:=Qh (bO.keep hb af);clear h2 Dr hb bO cP kH LP;go_upto_region 11 with fail
 go_wp2_with fail;clear HS;go_loopw [9,10,11] (fun last iv av wr=>∃ i:Nat,i≤N∧iv=.int .i64 (i:Nat)∧(∃ z:Int,last=.int .i64 z∧∀ j,i≤j→j < N→z < (f0 j:Nat))∧Below w5.heap.size w5 wr) (fun _ iv _ _=>N - (intOf iv).toNat)
 case atStart=>exact⟨0,bV _,rfl,⟨-1,rfl,fun j _ _=>ae⟩,aC _ _⟩
 case round=>
  obtain⟨i,hi,rfl,⟨z,rfl,hz⟩,hb⟩:=hrel;by_cases hlt:(i:Int) < N
  ·have a8:i < N:=ae;obtain⟨x1,x2,x3⟩:=xC.o i (by rw[q9.o];exact a8);obtain⟨v,f,D,x4,hinv,agE⟩:=HNC.o i (by rw[← qJ.o];exact a8);have hzi:=hz i af a8;obtain⟨b1,b2,b3⟩:=HF0.o i (by rw[q9.o];exact a8);have gA:∀ j,i+1≤j→j < N→(f0 i:Int) < (f0 j:Nat):=fun j h1 h2=>by have:=gP.o i j ae (by rw[q9.o];exact h2);omega
   rw[Bz]at x1 x2 x3 b1 b2 b3;have hl0:=aqu (bI d)[i];have q1:=dx x1 hb;have q2:=dx x2 hb;have q3:=dx x3 hb;have q4:=dx x4 hb;generalize ji (bI d)[i]=M at *;obtain⟨tx,Ln,Cn⟩:=M;dsimp only at *;have HZ:=Qh hz;have tH:=Qh gA;clear x1 x2 x3 x4 hz gA;have Dq:f0 i < s.length:=ae;go_wp2_with fail;refine aQ (cB _ _ Dq Ln Cn b1) ?_;intro w6 bR
   have p1:=dx q1 bR;have p2:=dx q2 bR;have p3:=dx q3 bR;have p4:=dx q4 bR;replace hb:=aH hb bR af;clear q1 q2 q3 q4 b1 bR;go_upto_region 15 with fail
   have l1:=fun x:aW w6=>aW.cell p1 x
   have l2:=fun x:aW w6=>aW.cell p2 x
   have l3:=fun x:aW w6=>aW.cell p3 x
   have l4:=fun x:aW w6=>aW.cell p4 x
   refine rL ?_
   repeat (go_big_quiet_step (fail))
   rw[dU (show ¬ ((f0 i:Nat):Int)≤z by omega)]
   repeat (first|(refine aqv (.tmp 78) hinv (fun W hx=>by obtain⟨x,rfl⟩:=hx;exact aW.made (agE _)) ?_;simp only[Act.put,nI,oZ,ox])|go_big_quiet_step ((first|(go_at_call 33;with_reducible exact aW.same (cS _ _ _ b2 b3)))))
   refine uk ?_;intro x;have HBX:=Qh (aH hb x.below af);generalize x.w=w7 at *;clear l1 l2 l3 l4 p1 p2 p3 p4 hb agE hinv;go_wp2_with fail;go_roundw;case rel=>exact⟨i+1,ae,bL,⟨_,rfl,tH.o⟩,HBX.o⟩
   case measure=>exact bY
  ·have HBR:=Qh hb;clear hz hb HF0 gP HNC xC q9 qJ;obtain⟨pa,pn,pb,pm,pc,pt,eC,-,hM,-⟩:=HC.o;have f7:=HK.o.cell 7 (.slice pb d.msgs.length pm) (by rw[eA.1 eC];rfl);have HM:=Qh hM;obtain⟨mb,mo,me⟩:∃ b o,0 < d.msgs.length→pb=some ⟨b,o,none⟩:=by
    by_cases h0:0 < d.msgs.length
    ·obtain⟨b,o,e,-⟩:=hM.at ah h0;exact⟨b,o,fun _=>e⟩
    ·exact Po
   clear hM eC HC HK uB;go_wp2_with fail;go_loopw [9,12,13,14] (fun _ mv _ _ wq=>∃ m:Nat,m≤d.msgs.length∧mv=.int .i64 (m:Nat)∧Below w5.heap.size w5 wq) (fun _ mv _ _ _=>d.msgs.length - (intOf mv).toNat)
   case atStart=>exact⟨0,bV _,rfl,HBR.o⟩
   case round=>
    clear HBR;obtain⟨m,hm,rfl,hb⟩:=hrel;have fr:=dx f7 hb;by_cases hlt:(m:Int) < d.msgs.length
    ·have a8:m < d.msgs.length:=ae;have yD:=me ae;subst yD;obtain⟨b',o',e',-,cs,hcl,ep,hrg⟩:=HM.o.at ah a8;cases e'
     obtain⟨xa,xc,iu,cV⟩:=ep;have x0:=hrg 0 (.int .i64 d.msgs[m].line) Bl;have x1:=hrg 1 (.int .i64 d.msgs[m].ak) Bl;have x7:=hrg 7 (.slice xa d.msgs[m].sigs.length xc) Bl;rw[q7]at x0;have q0:=dx x0 hb;have q1:=dx x1 hb;obtain⟨f,g1,g2⟩:=HG.o d.msgs[m] (gU _);have af4:(Ck d.msgs[m]).length=d.msgs[m].sigs.length+1:=(by unfold Ck;simp);obtain⟨b1,b2,-⟩:=g1 0 ae;replace b1:eN s (1,1) (f 0) (d.msgs[m].line,d.msgs[m].ak):=b1;replace b2:f 0+3≤s.length:=b2;have uh:=Qh (fun j (hj:j < d.msgs[m].sigs.length)=>(show Ki s (aeT d.msgs[m].sigs[j]) (f (j+1))from by have:=g1 (j+1) ae;simpa [Ck]using this));refine fQ (fun i j (h1:i < j) (h2:j < d.msgs[m].sigs.length+1)=>g2 i j h1 ae) cV a8 (Vf.o d.msgs[m] (gU _)) ?_;intro Ag Aq HMM hGl;have Kh:=hm;generalize d.msgs[m].line=Ln at *;generalize d.msgs[m].ak=Cn at *;generalize d.msgs[m].sigs=G at *;clear g1 g2 af4 hrg iu hcl x0 x1 cV;have Dq:f 0 < s.length:=ae;go_wp2_with fail;refine aQ (cB _ _ Dq Ln Cn b1) ?_;intro w6 bR
     have HBM:=Qh (aH hb bR af);clear hb bR q0 q1 b1 fr;obtain⟨sb,so,se⟩:∃ b o,0 < G.length→xa=some ⟨b,o,none⟩:=by
      by_cases h0:0 < G.length
      ·obtain⟨b,o,e,-⟩:=Aq.o.at ah h0;exact⟨b,o,fun _=>e⟩
      ·exact Po
     go_upto_region 22 with fail
     go_wp2_with fail;go_loopw [9,13,14] (fun last sv _ wq=>∃ j:Nat,j≤G.length∧sv=.int .i64 (j:Nat)∧(∃ z:Int,last=.int .i64 z∧∀ t,j≤t→t < G.length→z < (f (t+1):Nat))∧Below w5.heap.size w5 wq) (fun _ sv _ _=>G.length - (intOf sv).toNat)
     case atStart=>exact⟨0,bV _,rfl,⟨_,rfl,fun t _ ht=>by have:=Ag.o 0 (t+1) ae ae;omega⟩,HBM.o⟩
     case round=>
      clear HBM;obtain⟨j,hj,rfl,⟨z,rfl,hz⟩,hb⟩:=hrel;have fr:=dx f7 hb;have fs:=dx x7 hb;by_cases hlt:(j:Int) < G.length
      ·have Sx:j < G.length:=ae;have yD:=se ae;subst yD;obtain⟨b',o',e',-,cs,hcl,ep,hrg⟩:=Aq.o.at ah Sx;cases e'
       obtain⟨ya,yc,iu,-⟩:=ep;have x0:=hrg 0 (.int .i64 G[j].d.line) Bl;have x1:=hrg 1 (.int .i64 G[j].d.ak) Bl;rw[q7]at x0;have q0:=dx x0 hb;have q1:=dx x1 hb;obtain⟨b1,b2,b3⟩:=uh.o j Sx;replace b1:eN s (1,1) (f (j+1)) (G[j].d.line,G[j].d.ak):=b1;replace b2:f (j+1)+[83,71,95].length≤s.length:=b2;replace b3:(s.drop (f (j+1))).take [83,71,95].length=[83,71,95]:=b3;have HJ:=Qh Sx;have hzj:=hz j af Sx;have je:=Qh (show ∀ t,j+1≤t→t < G.length→((f (j+1):Nat):Int) < (f (t+1):Nat)from fun t h1 h2=>by have:=Ag.o (j+1) (t+1) ae ae;omega);have hfj:f (j+1) < s.length:=(by simp at b2;omega);generalize G[j].d.line=Lj at *;generalize G[j].d.ak=Cj at *;generalize f (j+1)=fj at *;clear hz hrg iu hcl x0 x1;go_wp2_with fail;refine aQ (cB _ _ hfj Lj Cj b1) ?_;intro w6 bR
       have Er:=Qh (aH hb bR af);clear hb bR q0 q1 b1 fr fs;have hle:¬ (fj:Int)≤z:=ae;go_wp2_with fail;refine aI (cS _ _ _ b2 b3) ?_
       rintro e w7 ⟨rfl,rfl⟩;go_wp2_with fail;go_roundw;case rel=>exact⟨j+1,HJ.o,bL,⟨_,rfl,je.o⟩,Er.o⟩
       case measure=>have:=HJ.o;exact bY
      ·have Er:=Qh hb;clear hz hb;go_wp2_with fail;go_roundw;case rel=>exact⟨m+1,HMM.o,bL,Er.o⟩
       case measure=>have:=HMM.o;exact bY
    ·have Er:=Qh hb;clear hb;go_wp2_with fail;go_ret;exact⟨rfl,aH HB.o Er.o af⟩
theorem akO:∀ j,j < 4→(I9 j).length≤1000:=ah
theorem akP (s:List UInt8) (hs:s.length≤524288) (a b:Int) (ha:-9223372036854775808≤a∧a≤9223372036854775807) (hb0:-9223372036854775808≤b∧b≤9223372036854775807) (d:aS) (hd:oy d 1048577) (hv:tq d) (hf:jX s=.good (bI d))
  (hpl:∀ k,k=xz a ((bI d).length+1)→∃ N,N≤s.length∧(∀ h:k < (bI d).length,N < s.length∧eN s (1,1) N ((ji (bI d)[k]).2.1,(ji (bI d)[k]).2.2))∧(k=(bI d).length→N=s.length) ∧
   ∀ j,j=xz b 4→∃ d',oy d' 1048577∧tq d'∧jX (s.take N++((I9 j++[32])++s.drop N))=.good (bI d')∧uI d' = uI d) (w:World) (hW:eR w) :
  Calls prog 16 #[.string ⟨s.toArray⟩,.int .i64 a,.int .i64 b] w fun e w'=>e=.returned (.bool true)∧Below w.heap.size w w':=by
 have BF:=hd.xu;have tu:=hd.xw;obtain⟨L,hL⟩:∃ L,L=(bI d).length:=⟨_,rfl⟩
 have hLb:L≤2000000:=(by have:=Qc hd;omega);have hk0:=Vk a (L+1) ae;obtain⟨k,ij⟩:∃ k,k=xz a (L+1):=⟨_,rfl⟩
 rw[← ij]at hk0;obtain⟨N,hN,QN,zV,hN3⟩:=hpl k (by rw[ij,hL]);have hj0:=Vk b 4 ae;obtain⟨j,zW⟩:∃ j,j=xz b 4:=⟨_,rfl⟩
 rw[← zW]at hj0;obtain⟨d',VT,hv',hf',lJ⟩:=hN3 j zW;obtain⟨c,hc⟩:∃ c,c=I9 j++[32]:=⟨_,rfl⟩
 rw[← hc]at hf';have hcl:c.length≤1001:=by
  have g:(I9 j).length≤1000:=akO j hj0;rw[hc,ey];exact Nat.add_le_add g (Nat.le_refl 1)
 have cR:=FA s ae d hd hv hf;have cP:=fun (W:World) C hC=>Vg d ae ae C W hC
 have vV:=Qh (fun (h:(s.take N++(c++s.drop N)).length≤9223372036854775807)=>FA (s.take N++(c++s.drop N)) h d' VT hv' hf');have LJ:=Qh (fun (W:World) cs h=>Qg d (Vm hd ae) hv W cs h);have II:=Qh (fun (W:World) cs h=>Qg d' (Vm VT ae) hv' W cs h);rw[lJ]at II;have cS:=Qh (fun (W:World) cs ds h1 h2=>akQ (uI d) W cs ds h1 h2);have cK:=fun (W:World)=>Vi a ha (L+1) ae ae W
 rw[← ij]at cK;rw[show((L+1:Nat):Int)=(L:Int)+1 from rfl]at cK;have cJ:=fun (W:World)=>Vi b hb0 4 ah ah W
 rw[← zW]at cJ;rw[show((4:Nat):Int)=4 from rfl]at cJ;have cA:=Qh (fun (W:World) (n:Nat) (hn:n < s.length) (L C:Int) (hb:eN s (1,1) n (L,C))=>Vh s ae n hn L C hb W);have tH:=Qh QN;clear hd hv hf hpl ij QN hN3 zW VT hv' hf' lJ;refine fx zV hL hc hW ?_;clear hW hL zV hc;intro Mr HL HC HW;go_enter func16,ntmps16
 go_wp2_with fail;refine A5 (cR _ HW.o) ?_;intro w1 C hC hb uB gN
 replace HW:=Qh (HW.o.keep hb);have HB:=Qh hb;have dC:=(aC w1.heap.size w1).alloc af (.cells C 33);have eB:=Qh (tA (vS _ _ _ _ hC dC));have bO:=ai.new w1 C 33;replace HW:=Qh (HW.o.keep dC);replace HB:=Qh (aH HB.o dC af);have hu:=underlying33;clear hC hb cR dC;go_upto_region 2 with (refine eX (Z:=bf) (cs:=C) 33 (.tmp 7) (.tmp 20) Ff Dg gN ?_)
 generalize w1.alloc (.cells C 33)=w2 at *;generalize w1.heap.size=k5 at *;clear gN;go_wp2_with fail;refine CW (zK _ HW.o) ?_;intro w3 hb HW HB
 replace eB:=Qh (vT _ _ _ _ eB.o hb);replace bO:=bO.keep hb af;clear hb;go_wp2_with (refine fG bO 33 (.tmp 7) hu Fh ?_)
 refine aI (cP _ _ eB.o) ?_
 rintro e w5 ⟨l,u,rfl,h2⟩;obtain⟨la,lc,e1,-⟩:=h2.pl.shape;subst e1;obtain⟨ua,uc,e1,-⟩:=h2.wd.shape;subst e1;obtain⟨-,-,lb,lo,ub,uo,rfl,rfl,Dr⟩:=Vl h2 (by rw[iw,← HL.o];have:=HL.o;unfold bI at this;simp at this;omega);have xC:=Qh Dr;have hb:=h2.cL;have kH:((bI d).map ji).length=L:=(by rw[iw,HL.o]);rw[kH];have q9:=Qh kH;replace HW:=Qh (HW.o.keep hb);replace eB:=Qh (vT _ _ _ _ eB.o hb);replace HB:=Qh (aH HB.o hb af);replace bO:=bO.keep hb af;clear h2 Dr hb cP kH;go_wp2_with fail;refine aI (cK _) ?_
 rintro e w6 ⟨rfl,rfl⟩;clear cK;by_cases hk:k < L;case' neg=>
  have hNs:N=s.length:=Mr.o (by rw[← HL.o];omega);clear tH Mr xC q9 cA;go_wp2_with fail;rw[← hNs];clear hNs
 case' pos=>
  obtain⟨x1,x2,x3⟩:=xC.o k (by rw[q9.o];exact hk);obtain⟨y1,y2⟩:=tH.o (by rw[← HL.o];exact hk);rw[Bz]at x1 x2;generalize ji ((bI d)[k]'(by rw[← HL.o];exact hk))=M at *;obtain⟨tx,Ln,Cn⟩:=M;dsimp only at *;clear x3 xC q9;go_wp2_with fail;refine aQ (cA.o _ _ y1 Ln Cn y2) ?_;intro w6 hb
  replace HW:=Qh (HW.o.keep hb);replace eB:=Qh (vT _ _ _ _ eB.o hb);replace HB:=Qh (aH HB.o hb af);replace bO:=bO.keep hb af;clear hb x1 x2 y1 y2 tH Mr cA;go_wp2_with fail
 all_goals
  have Jb:=Qh (show(s.take N++(c++s.drop N)).length≤9223372036854775807 by simp only[ey,uC,e7];omega);have f:=akN j hj0 w6;rw[← HC.o]at f;have dC:=(aC w6.heap.size w6).alloc af (.cells #[.string ⟨#[32,67,77,95,32,59,32]⟩,.string ⟨#[32,67,77,95,32,34,120,34,32,59,32]⟩,.string ⟨#[32,67,77,95,32,66,79,95,32,50,53,54,32,34,97,59,98,34,32,44,32,40,32,64,48,43,32,59,32]⟩,.string ⟨#[32,67,77,95,32,67,77,95,32,86,69,82,83,73,79,78,32,66,85,95,32,58,32,49,46,53,32,59,32,67,77,95,32,83,71,95,32,77,32,109,48,32,59,32]⟩] 9);replace HW:=Qh (HW.o.keep dC);replace eB:=Qh (vT _ _ _ _ eB.o dC);replace HB:=Qh (aH HB.o dC af);replace bO:=bO.keep dC af;clear dC;generalize w6.alloc (.cells #[.string ⟨#[32,67,77,95,32,59,32]⟩,.string ⟨#[32,67,77,95,32,34,120,34,32,59,32]⟩,.string ⟨#[32,67,77,95,32,66,79,95,32,50,53,54,32,34,97,59,98,34,32,44,32,40,32,64,48,43,32,59,32]⟩,.string ⟨#[32,67,77,95,32,67,77,95,32,86,69,82,83,73,79,78,32,66,85,95,32,58,32,49,46,53,32,59,32,67,77,95,32,83,71,95,32,77,32,109,48,32,59,32]⟩] 9)=w8 at *;generalize w6.heap.size=k8 at *;refine aI (cJ _) ?_
  rintro e w9 ⟨rfl,rfl⟩;clear cJ;go_upto_region 11 with fail
  refine xt (S:=fun (_:World)=>True) aj trivial (fun hHeld=>?_);refine hT 0 ?_;refine aL ?_
  refine hT 1 ?_;refine aL ?_
  refine oA 2 (v:=.string ⟨(s.take N).toArray⟩) rfl aj aj aj (fun _ _ _ h=>h) ot (Or.inl ⟨by rfl,fun w _=>by
   go_simp;rw[akL s N hN]⟩) ?_
  refine aL ?_
  refine hT 3 ?_;refine aL ?_
  refine oA 4 (v:=.string ⟨(s.take N++c).toArray⟩) rfl aj aj aj (fun _ _ _ h=>h) ot (Or.inl ⟨by rfl,fun w _=>by
   go_simp;rw[if_neg ae];rfl⟩) ?_
  refine aL ?_
  refine hT 5 ?_;refine aL ?_
  refine hT 6 ?_;refine aL ?_
  refine oA 7 (v:=.string ⟨(s.drop N).toArray⟩) rfl aj aj aj (fun _ _ _ h=>h) ot (Or.inl ⟨by rfl,fun w _=>by
   go_simp;rw[akM s N hN]⟩) ?_
  refine aL ?_
  refine oA 8 (v:=.string ⟨(s.take N++(c++s.drop N)).toArray⟩) rfl aj aj aj (fun _ _ _ h=>h) ot (Or.inl ⟨by rfl,fun w _=>by
   go_simp;rw[if_neg ae];rw[acw,o6]⟩) ?_
  refine aL ?_
  have hdr:Below w9.heap.size w9 w9.drew:=(aC _ _).drew;refine akK 9 13 rfl rfl aj (fun K hK=>?_) (fun K hK=>?_);case' refine_1=>
   go_simp;refine A5 (vV.o Jb.o _ (HW.o.keep hdr)) ?_;intro fC C2 hC2 hb zM jB
   refine hK.o _ _ trivial (fun hHeld=>?_);clear hK K;refine aL ?_
   refine hT 10 ?_;refine aL ?_
   refine hT 11 ?_;refine aL ?_
   refine hT 12 ?_;refine aL ?_
   have hb2:=hdr.trans hb;refine jS 13 rfl aj (fun K hK=>?_);go_simp;refine hK.o _ _ trivial (fun hHeld=>?_);clear hK K;refine aL ?_
   have hz:(fC.alloc (.cells bf 33)).heap[fC.heap.size]? = some (.cells bf 33):=dK fC _;have hb3:Below fC.heap.size fC ((fC.alloc (.cells bf 33)).setRow fC.heap.size C2):=pL ((aC fC.heap.size fC).alloc af (.cells bf 33)) af C2;refine jS 14 rfl aj (fun K hK=>?_);refine VU (cs:=C2) ⟨_,hz⟩ 33 (.tmp 15) (.tmp 75) (by rw[zM];exact jw) (by rw[zM];rfl) jB ?_;refine hK.o _ _ trivial (fun hHeld=>?_);clear hK K;refine aL ?_
   have hF:rf ((fC.alloc (.cells bf 33)).setRow fC.heap.size C2) d' C2.toList:=tA (vS _ _ _ _ hC2 hb3);have hB2:ai ((fC.alloc (.cells bf 33)).setRow fC.heap.size C2) fC.heap.size C2:=ai.row ⟨_,hz⟩ C2;have hb4:=aH hb2 hb3 af;generalize (fC.alloc (.cells bf 33)).setRow fC.heap.size C2=wz at *;generalize fC.heap.size=Vn at *;clear hz hb hb2 hb3 hC2
  case' refine_2=>
   go_simp;refine hK.o _ _ trivial (fun hHeld=>?_);clear hK K;refine aL ?_
   have hz:(w9.alloc (.cells bf 33)).drew.heap[w9.heap.size]? = some (.cells bf 33):=dK w9 _;have VV:=((aC w9.heap.size w9).alloc af (.cells bf 33)).drew;generalize (w9.alloc (.cells bf 33)).drew=wa at *;refine jS 9 rfl aj (fun K hK=>?_);go_simp;refine A5 (vV.o Jb.o _ (HW.o.keep VV)) ?_;intro fC C2 hC2 hb zM jB
   refine hK.o _ _ trivial (fun hHeld=>?_);clear hK K;refine aL ?_
   refine hT 10 ?_;refine aL ?_
   refine hT 11 ?_;refine aL ?_
   refine hT 12 ?_;refine aL ?_
   have hz2:=bF hz hb;have hb2:=aH VV hb af;refine jS 14 rfl aj (fun K hK=>?_);refine VU (cs:=C2) ⟨_,hz2⟩ 33 (.tmp 15) (.tmp 75) (by rw[zM];exact jw) (by rw[zM];rfl) jB ?_;refine hK.o _ _ trivial (fun hHeld=>?_);clear hK K;refine aL ?_
   have hF:rf (fC.setRow w9.heap.size C2) d' C2.toList:=tA (Vq 0 ah ah ah ah ah _ _ _ _ w9.heap.size _ _ hC2 hz2 qX (fun b _ hne=>gK _ _ _ _ hne));have hB2:ai (fC.setRow w9.heap.size C2) w9.heap.size C2:=ai.row ⟨_,hz2⟩ C2;have hb4:=pL hb2 (show w9.heap.size≤w9.heap.size from af) C2;generalize fC.setRow w9.heap.size C2=wz at *;generalize akR:w9.heap.size=Vn at *;rw[← akR]at hb4;clear hz hz2 hb hb2 hC2 VV
  all_goals
   refine hT 15 ?_;refine wS ?_
   replace eB:=Qh (vT _ _ _ _ eB.o hb4);replace HB:=Qh (aH HB.o hb4 af);replace bO:=bO.keep hb4 af;have HF:=Qh hF;clear hF hb4 hdr HW f vV;have QO:Below wz.heap.size wz wz.drew:=(aC _ _).drew;have hr1:=vT _ _ _ _ eB.o QO;go_wp2_with fail;refine xt (S:=fun (w':World)=>ai w' k5 C∧ai w' Vn C2) aj ⟨bO.keep (aC _ _).drew af,hB2.keep (aC _ _).drew af⟩ (fun hHeld=>?_);clear bO hB2;refine hT 0 ?_;refine aL ?_
   refine hT 1 ?_;refine aL ?_
   refine oA 2 (v:=.agg C) rfl aj aj aj (fun _ _ _ h=>h) ot (adN (fun w h=>h.1) 33 (.tmp 7) hu Fh aj) ?_;refine aL ?_
   refine oA 4 (v:=.agg C2) rfl aj aj aj (fun _ _ _ h=>h) ot (adN (fun w h=>h.2) 33 (.tmp 15) hu (by rw[zM];exact jw) aj) ?_;refine Lo ?_;intro K hK
   go_simp;refine jH (LJ.o _ _ hr1) ?_;intro wq E1 pV hb
   refine hK.o _ _ ⟨hHeld.1.keep hb af,hHeld.2.keep hb af⟩ (fun hHeld=>?_);clear hK K;refine aL ?_
   replace HB:=Qh (aH HB.o (QO.trans hb) af);replace HF:=Qh (vT _ _ _ _ HF.o (QO.trans hb));clear hb eB hr1 QO;refine jS 5 rfl aj (fun K hK=>?_);go_simp;refine jH (II.o _ _ HF.o) ?_;intro wq E2 LK hb
   refine hK.o _ _ ⟨hHeld.1.keep hb af,hHeld.2.keep hb af⟩ (fun hHeld=>?_);clear hK K;refine aL ?_
   replace HB:=Qh (aH HB.o hb af);have akS:=E3 _ _ _ _ _ pV hb;clear hb HF pV;refine jS 6 rfl aj (fun K hK=>?_);go_simp;refine aQ (cS.o _ _ _ (tA (Qi akS)) (tA (Qi LK))) ?_;intro wq hb
   refine hK.o _ _ ⟨hHeld.1.keep hb af,hHeld.2.keep hb af⟩ (fun hHeld=>?_);clear hK K;refine aL ?_
   replace HB:=Qh (aH HB.o hb af);clear hb;refine hT 7 ?_;refine aL ?_
   refine hT 8 ?_;refine wS ?_
   exact ui
theorem Re:(il dB).length=231:=ah
theorem amC {s:List UInt8} (h:MJ s=true) :
  (∃ T x,jX s=.bad (.iface T x))∨(∃ d,oy d 1048577∧tq d∧jX s=.good (bI d)∧oJ s 0 ((bI d).flatMap Gd)∧s.length≤1048576):=by
 rcases alc s with h1|⟨T,d,r,hw,hd,hl⟩
 ·exact .inl h1
 ·obtain⟨a,b,c⟩:=adT hw hd;refine .inr ⟨d,a,b,c,aeB _ _ _ ?_,hl⟩;unfold MJ yn at h;rw[hw]at h;simp only[hd]at h;exact h
theorem aeC (s:List UInt8) (hp:MJ s=true) (hs:s.length≤200000) (w:World) (hW:eR w) :
  Calls prog 18 #[.string ⟨s.toArray⟩] w fun e w'=>e=.returned (.bool true)∧Below w.heap.size w w':=by
 rcases amC hp with ⟨T,x,hf⟩|⟨d,hd,hv,hf,hst,hl⟩
 ·refine amD s T x (fun w hW=>(Jk s ae w hW).mono fun e w' h=>?_) w hW;rw[hf]at h;exact h
 ·refine amE s hl d hd hv hst (fun w hW=>(Jk s ae w hW).mono fun e w' h=>?_) w hW;rw[hf]at h;exact h
theorem WB:∀ i,i < 6→qF i < 231∧xz (i:Nat) (6+1)=i∧(([([86,69,82,83,73,79,78],1,1),([66,85,95],1,13),([66,79,95],1,23),([66,79,95],1,169),([86,65,76,95],1,192),([86,65,76,95],1,221)]:List Mark)[i]?).map (·.2)=some (1,(qF i:Int)+1):=ah
theorem aeD:∃ d,yn (il dB)=some d∧d.has=true∧d.msgs.length=2∧(bI d).length=6∧∀ k,k < 6→∀ h:k < (bI d).length,qF k < (il dB).length∧eN (il dB) (1,1) (qF k) ((ji (bI d)[k]).2.1,(ji (bI d)[k]).2.2):=by
 have h:=amF;cases hd:yn (il dB)with
 | none=>rw[hd]at h;cases h
 | some d=>
  rw[hd]at h;simp only[Option.map_some,Option.some.injEq,Prod.mk.injEq]at h;obtain⟨g1,g2,g3⟩:=h;refine⟨d,rfl,g2,g3,by have:=jA List.length g1;simpa using this,fun k hk h=>?_⟩;obtain⟨p1,-,p2⟩:=WB k hk;have e:((bI d).map ji)[k]? = some (ji (bI d)[k]):=(by simp[h]);rw[← g1,e,Option.map_some,Option.some.injEq]at p2;refine⟨by rw[Re];exact p1,?_⟩;rw[p2];exact WC _ _ _ _ _ (amG k hk)
theorem amH (i:Nat) (hi:i < 6) (w:World) (hW:eR w) :
  Calls prog 16 #[.string ⟨(il dB).toArray⟩,.int .i64 (i:Nat),.int .i64 (i:Nat)] w fun e w'=>e=.returned (.bool true)∧Below w.heap.size w w':=by
 obtain⟨d,hd,-,-,hL,hB⟩:=aeD;have hl:=Re;obtain⟨h1,h2,h3⟩:=Rf hd;refine akP _ ae i i ⟨ae,ae⟩ ⟨ae,ae⟩ d h1 h2 h3 (fun k hk=>?_) w hW;obtain rfl:k=i:=by rw[hk,hL];exact(WB i hi).2.1
 refine⟨qF k,by have:=(WB k hi).1;omega,fun h=>hB k hi h,fun e=>ae,fun j hj=>?_⟩;subst hj;have hc:=amI k hi;rw[hd,Option.map_some]at hc;obtain⟨d',e1,e2⟩:=IB.1 hc;obtain⟨q1,q2,q3⟩:=Rf e1;exact⟨d',q1,q2,q3,e2⟩
theorem amJ (i:Nat) (hi:i < 6) (w:World) (hW:eR w) :
  Calls prog 17 #[.string ⟨(il dB).toArray⟩,.int .i64 (i:Nat)] w fun e w'=>e=.returned (.bool true)∧Below w.heap.size w w':=by
 obtain⟨d,hd,g2,g3,hL,hB⟩:=aeD;have hl:=Re;obtain⟨h1,h2,h3⟩:=Rf hd;refine aiR _ ae i ⟨ae,ae⟩ d h1 h2 h3 (fun _ j hj=>?_) w hW;have tF:j < 2:=ae;have hm:vR d j=j+2:=(by unfold vR;rw[g2];simp;omega);refine⟨qF (j+2),qF (j+3),?_,?_,?_,?_,?_⟩
 ·rw[hm];exact fun h=>hB (j+2) ae h
 ·rw[hm];exact fun h=>hB (j+3) ae h
 ·rw[hm];intro e;omega
 ·omega
 ·have hle:∀ j,j < 2→qF (j+2)≤qF (j+3)∧qF (j+3)≤231:=ah;obtain⟨l1,l2⟩:=hle j tF;refine⟨l1,ae,?_⟩;have hc:=amK j tF;rw[hd,Option.map_some]at hc;obtain⟨⟨has,bG,⟨L,C,ns⟩,ms,tbs⟩,e1,e2⟩:=IB.1 hc;obtain⟨q1,q2,q3⟩:=Rf e1;simp only[Prod.mk.injEq]at e2;obtain⟨rfl,rfl,rfl,e2,rfl⟩:=e2;rw[jq hj]at e2;obtain⟨m',rfl,e3⟩:∃ m',ms=[m']∧iI m' = iI d.msgs[j]:=by
   have e4:ms.map iI=[iI d.msgs[j]]:=e2;clear e1 q1 q3 e2;rcases ms with _|⟨m',_|⟨m2,ms⟩⟩
   ·exact absurd (jA List.length e4) aB
   ·exact⟨m',rfl,(List.cons.inj e4).1⟩
   ·exact absurd (jA List.length e4) aB
  exact⟨m',L,C,e3,q1,q3⟩
theorem amL (w:World) (hW:eR w) :
  Calls prog 3 #[] w fun e w'=>e=.returned (.bool true)∧Below w.heap.size w w':=by
 have hl:=Re;have cF:∀ s:List UInt8,s.length≤200000→∀ W,eR W→Calls prog 13 #[.string ⟨s.toArray⟩] W fun e w'=>e=.returned (.bool true)∧Below W.heap.size W w':=fun s hs W hW=>amM s ae W hW
 exact amB (fun W hW=>amn cF amH amJ (fun W hW=>aeC _ amN ae W hW) W hW)
  (fun W hW=>amw W hW) (fun W hW=>amy cF (fun s hs W hW=>aeC s (List.all_eq_true.1 amO s hs) (by have:=aez s hs;omega) W hW) W hW) (fun W hW=>amz cF W hW) w hW
end Go.Proofs.YtfflljgnpfldfaaGreatDoor
