/-
  The reference's copies of messages, tables, stations: contracts. (Printed by gen_cop.py.)
-/
import Derived.Test.YtfflljgnpfldfaaGreatDoorHeldP
set_option linter.all false
set_option maxHeartbeats 128000000
set_option maxRecDepth 100000
namespace Go.Proofs.YtfflljgnpfldfaaGreatDoor
open Go.Proofs.Tryz
open Go.RowKit Go.Shelf
def dI.cells (d:dI) (tv:Value):Array Value:=#[.int .i64 d.line,.int .i64 d.ak,.string ⟨d.name.toArray⟩,.int .i64 d.role,.int .u64 (d.branch:Nat),.int .i64 d.start,.int .i64 d.size,.bool d.aqH,.bool d.signed,.int .i64 d.sn,.int .i64 d.sd,.int .i64 d.on,.int .i64 d.od,.int .i64 d.mn,.int .i64 d.md,.int .i64 d.xn,.int .i64 d.xd,.string ⟨d.unit.toArray⟩,tv]
theorem dI.nO (d:dI) (tv:Value):(d.cells tv).size=19:=rfl
theorem dI.cells_one (d:dI) (a:Option Addr) (n c:Nat):(d.cells (.slice a n c)).all (·.oneCell')=true:=by unfold dI.cells;simp[Value.oneCell']
theorem dI.xV (d:dI) (tv:Value):(d.cells tv)[18]? = some tv:=rfl
theorem dI.zX (d:dI) (tv v:Value):(d.cells tv).setIfInBounds 18 v=d.cells v:=rfl
abbrev kL:Array Value:=#[.int .i64 0,.int .i64 0,.string ⟨#[]⟩,.int .i64 0,.int .u64 0,.int .i64 0,.int .i64 0,.bool false,.bool false,.int .i64 0,.int .i64 0,.int .i64 0,.int .i64 0,.int .i64 0,.int .i64 0,.int .i64 0,.int .i64 0,.string ⟨#[]⟩,.slice none 0 0]
theorem Jc:(prog.info? 63).map (fun i=>(i.zero,i.size))=some (some (.agg kL),19):=aj
theorem uA:(prog.info? 63).map (·.size)=some 19:=aj
open Go.RowKit
structure et where
 d:dI
 rs:List (List UInt8)
structure bj where
 line:Int
 ak:Int
 id:Nat
 wide:Bool
 name:List UInt8
 size:Int
 aoX:List UInt8
 sigs:List et
structure bK where
 line:Int
 ak:Int
 id:Nat
 wide:Bool
 sig:List UInt8
 rows:List (Int×List UInt8)
structure fH where
 line:Int
 ak:Int
 names:List (List UInt8)
structure zQ where
 line:Int
 ak:Int
 text:List UInt8
inductive aX where
 | bG (v:zQ)
 | aR (s:fH)
 | msg (m:bj)
 | tab (t:bK)
structure aS where
 has:Bool
 bG:zQ
 aR:fH
 msgs:List bj
 tabs:List bK
def bj.cells (m:bj) (sv:Value):Array Value:=#[.int .i64 m.line,.int .i64 m.ak,.int .u32 (m.id:Nat),.bool m.wide,.string ⟨m.name.toArray⟩,.int .i64 m.size,.string ⟨m.aoX.toArray⟩,sv]
def bK.cells (t:bK) (rv:Value):Array Value:=#[.int .i64 t.line,.int .i64 t.ak,.int .u32 (t.id:Nat),.bool t.wide,.string ⟨t.sig.toArray⟩,rv]
def fH.cells (s:fH) (nv:Value):Array Value:=#[.int .i64 s.line,.int .i64 s.ak,nv]
def zQ.cells (v:zQ):Array Value:=#[.int .i64 v.line,.int .i64 v.ak,.string ⟨v.text.toArray⟩]
def aS.cells (d:aS) (nv mv tv:Value):Array Value:=#[.bool d.has,.int .i64 d.bG.line,.int .i64 d.bG.ak,.string ⟨d.bG.text.toArray⟩,.int .i64 d.aR.line,.int .i64 d.aR.ak,nv,mv,tv]
def fS (x:Int×List UInt8):List Value:=[.int .i64 x.1,.string ⟨x.2.toArray⟩]
theorem adM (x:Int×List UInt8):(fS x).length=2:=rfl
def xU (w:World) (x:et) (cs:List Value):Prop:=∃ a cap,cs=(x.d.cells (.slice a x.rs.length cap)).toList∧xS w a cap x.rs
def ru (w:World) (m:bj) (cs:List Value):Prop:=∃ a cap,cs=(m.cells (.slice a m.sigs.length cap)).toList∧ei w xU 19 a cap m.sigs
def su (w:World) (t:bK) (cs:List Value):Prop:=∃ a cap,cs=(t.cells (.slice a t.rows.length cap)).toList∧bA w fS 2 a cap t.rows
def FY (w:World) (s:fH) (cs:List Value):Prop:=∃ a cap,cs=(s.cells (.slice a s.names.length cap)).toList∧xS w a cap s.names
def wu (w:World) (n:aX) (cs:List Value):Prop:=match n with
 | .bG v=>cs=[.iface 26 (.agg v.cells)]
 | .aR s=>∃ C:Array Value,cs=[.iface 29 (.agg C)]∧FY w s C.toList
 | .msg m=>∃ C:Array Value,cs=[.iface 39 (.agg C)]∧ru w m C.toList
 | .tab t=>∃ C:Array Value,cs=[.iface 43 (.agg C)]∧su w t C.toList
def rf (w:World) (d:aS) (cs:List Value):Prop:=∃ a cap b cbp c ccp,cs=(d.cells (.slice a d.aR.names.length cap) (.slice b d.msgs.length cbp) (.slice c d.tabs.length ccp)).toList ∧
 xS w a cap d.aR.names∧ei w ru 8 b cbp d.msgs∧ei w su 6 c ccp d.tabs
def mW (b:Nat) (w:World) (x:et) (cs:List Value):Prop:=∃ v,cs=(x.d.cells v).toList∧aG w b 9 1 dr v x.rs
def jK (b:Nat) (w:World) (m:bj) (cs:List Value):Prop:=∃ v,cs=(m.cells v).toList∧aZ w b 63 (mW b) 19 v m.sigs
def nN (b:Nat) (w:World) (t:bK) (cs:List Value):Prop:=∃ v,cs=(t.cells v).toList∧aG w b 45 2 fS v t.rows
def QR (b:Nat) (w:World) (s:fH) (cs:List Value):Prop:=∃ v,cs=(s.cells v).toList∧aG w b 9 1 dr v s.names
def tB (b:Nat) (w:World) (d:aS) (cs:List Value):Prop:=∃ u v z,cs=(d.cells u v z).toList ∧
 aG w b 9 1 dr u d.aR.names∧aZ w b 39 (jK b) 8 v d.msgs∧aZ w b 43 (nN b) 6 z d.tabs
abbrev uO:=mW 0
abbrev DO:=jK 0
abbrev DR:=nN 0
abbrev XE:=QR 0
abbrev Ja:=tB 0
def QZ (w:World) (n:aX) (cs:List Value):Prop:=match n with
 | .bG v=>cs=[.iface 26 (.agg v.cells)]
 | .aR s=>∃ C:Array Value,cs=[.iface 29 (.agg C)]∧XE w s C.toList
 | .msg m=>∃ C:Array Value,cs=[.iface 39 (.agg C)]∧DO w m C.toList
 | .tab t=>∃ C:Array Value,cs=[.iface 43 (.agg C)]∧DR w t C.toList
theorem ei.C7 {α:Type} {rd zO:World→α→List Value→Prop} {w:World} {size:Nat} {a:Option Addr} {cap:Nat} {xs:List α} (h:ei w rd size a cap xs) (hm:∀ x cs,rd w x cs→zO w x cs):ei w zO size a cap xs:=by
 exact UX h
theorem aoY {w:World} {x:et} {cs:List Value} (h:uO w x cs):xU w x cs:=by
 exact UA
theorem afN {w:World} {m:bj} {cs:List Value} (h:DO w m cs):ru w m cs:=by
 obtain⟨v,rfl,ho⟩:=h;obtain⟨a,cap,rfl,hs⟩:=ho.shape;exact⟨a,cap,rfl,hs.C7 fun _ _=>aoY⟩
theorem afO {w:World} {t:bK} {cs:List Value} (h:DR w t cs):su w t cs:=by
 exact UA
theorem aoZ {w:World} {s:fH} {cs:List Value} (h:XE w s cs):FY w s cs:=by
 exact UA
theorem aiK {w:World} {n:aX} {cs:List Value} (h:QZ w n cs):wu w n cs:=by
 cases n with
 | bG v=>exact h
 | aR s=>obtain⟨C,h1,h2⟩:=h;exact⟨C,h1,aoZ h2⟩
 | msg m=>obtain⟨C,h1,h2⟩:=h;exact⟨C,h1,afN h2⟩
 | tab t=>obtain⟨C,h1,h2⟩:=h;exact⟨C,h1,afO h2⟩
theorem tA {w:World} {d:aS} {cs:List Value} (h:Ja w d cs):rf w d cs:=by
 obtain⟨u,v,z,rfl,h1,h2,h3⟩:=h;obtain⟨a,cap,rfl,hs⟩:=h1.shape;obtain⟨b,cb,rfl,hm⟩:=h2.shape;obtain⟨c,cc,rfl,ht⟩:=h3.shape;exact⟨a,cap,b,cb,c,cc,rfl,hs,hm.C7 fun _ _=>afN,ht.C7 fun _ _=>afO⟩
theorem BR:jY xU:=fun w w' x cs ⟨a,cap,h1,h2⟩ hb=>⟨a,cap,h1,h2.keep hb af⟩
theorem iE:jY ru:=fun w w' x cs ⟨a,cap,h1,h2⟩ hb=>⟨a,cap,h1,h2.keep BR hb⟩
theorem jP:jY su:=fun w w' x cs ⟨a,cap,h1,h2⟩ hb=>⟨a,cap,h1,h2.keep hb af⟩
theorem ao0:jY FY:=fun w w' x cs ⟨a,cap,h1,h2⟩ hb=>⟨a,cap,h1,h2.keep hb af⟩
theorem B3:jY wu:=fun w w' x cs h hb=>by
 cases x with
 | bG v=>exact h
 | aR s=>obtain⟨C,h1,h2⟩:=h;exact⟨C,h1,ao0 _ _ _ _ h2 hb⟩
 | msg m=>obtain⟨C,h1,h2⟩:=h;exact⟨C,h1,iE _ _ _ _ h2 hb⟩
 | tab t=>obtain⟨C,h1,h2⟩:=h;exact⟨C,h1,jP _ _ _ _ h2 hb⟩
theorem vT:jY rf:=fun w w' x cs ⟨a,cap,b,cb,c,cc,h1,h2,h3,h4⟩ hb=>⟨a,cap,b,cb,c,cc,h1,h2.keep hb af,h3.keep iE hb,h4.keep jP hb⟩
theorem vB (b:Nat):jY (mW b):=fun w w' x cs ⟨v,h1,h2⟩ hb=>⟨v,h1,h2.keep hb af⟩
theorem aoN:jY uO:=vB 0
theorem qQ (b:Nat):jY (jK b):=fun w w' x cs ⟨v,h1,h2⟩ hb=>⟨v,h1,h2.keep (vB b) hb⟩
theorem RH:jY DO:=qQ 0
theorem sf (b:Nat):jY (nN b):=fun w w' x cs ⟨v,h1,h2⟩ hb=>⟨v,h1,h2.keep hb af⟩
theorem RI:jY DR:=sf 0
theorem E3 (b:Nat):jY (tB b):=fun w w' x cs ⟨u,v,z,h1,h2,h3,h4⟩ hb=>⟨u,v,z,h1,h2.keep hb af,h3.keep (qQ b) hb,h4.keep (sf b) hb⟩
theorem vS:jY Ja:=E3 0
theorem aG.dn {α:Type} {w w':World} {base:Nat} {e' e:TypeId} {size:Nat} {en:α→List Value} {v:Value} {xs:List α} (h:aG w base e' size en v xs) (he:e'≠e) {k:Nat} {C:Array Value} {fz:Nat×Nat} (hk:w.heap[k]? = some (.cells C e fz))
  (hb:∀ b,b < w.heap.size→b≠k→w'.heap[b]? = w.heap[b]?):aG w' base e' size en v xs:=by
 refine h.vo fun g hg=>hb g (h.lt g hg).2 fun e0=>?_
 subst e0;obtain⟨c,f,h3⟩:=zF h g hg;rw[h3]at hk;cases hk
 exact he rfl
theorem aZ.dn {α:Type} {rd:World→α→List Value→Prop} {w w':World} {base:Nat} {e' e:TypeId} {size:Nat} {v:Value} {xs:List α} (h:aZ w base e' rd size v xs) (he:e'≠e) (ha:kI rd e) {k:Nat} {C:Array Value} {fz:Nat×Nat} (hk:w.heap[k]? = some (.cells C e fz))
  (hz:w.heap.size≤w'.heap.size) (hb:∀ b,b < w.heap.size→b≠k→w'.heap[b]? = w.heap[b]?):aZ w' base e' rd size v xs:=by
 obtain⟨rows,h1,h2⟩:=h;exact⟨rows,h1.dn he hk hb,h2.mono fun x r hr=>ha _ _ _ _ _ _ _ hr hk hz hb⟩
theorem vw (b:Nat) {e:TypeId} (he:9≠e):kI (mW b) e:=fun w w' x cs k C fz ⟨v,h1,h2⟩ hk _ hb=>⟨v,h1,h2.dn he hk hb⟩
theorem afu {e:TypeId} (he:9≠e):kI uO e:=vw 0 he
theorem lu (b:Nat) {e:TypeId} (he:9≠e) (rZ:63≠e):kI (jK b) e:=fun w w' x cs k C fz ⟨v,h1,h2⟩ hk hz hb=>⟨v,h1,h2.dn rZ (vw b he) hk hz hb⟩
theorem RJ {e:TypeId} (he:9≠e) (rZ:63≠e):kI DO e:=lu 0 he rZ
theorem mQ (b:Nat) {e:TypeId} (he:45≠e):kI (nN b) e:=fun w w' x cs k C fz ⟨v,h1,h2⟩ hk _ hb=>⟨v,h1,h2.dn he hk hb⟩
theorem RM {e:TypeId} (he:45≠e):kI DR e:=mQ 0 he
theorem LX:eO prog 41 45 2 24:=eO.mk' (.agg #[.int .i64 0,.string ⟨#[]⟩]) underlying41 aj rfl ah ah
theorem IW:eO prog 37 63 19 176:=eO.mk' (.agg kL) underlying37 aj rfl ah ah
theorem VR {α:Type} {en:α→List Value} {P:Program} {w:World} {ops:Array Oper} {rest:List Oper} {o:Oper} {a:Act} {Q:Exit→Act→World→Prop} {s x:Operand} {t e:TypeId} {size bytes:Nat} (T:eO P t e size bytes)
  (xs:List α) (hen:∀ y,(en y).length=size) (hone:∀ y∈xs,∀ u∈en y,u.oneCell' = true) {ad:Option Addr} {cap:Nat} (hs:bA w en size ad cap xs) (hbound:xs.length*bytes≤140737488355328) (hne:ad≠none)
  (h:∀ v' w1,aG w1 w.heap.size e size en v' xs→Below w.heap.size w w1→wpList P ops Q rest (a.put o.dst v') w1)
  (hgd:o.guard=none:=by rfl) (ho:o.op=.call { callee:=.builtin .append,args:=#[s,x],argTypes:=#[t,t] }:=by rfl)
  (hs0:a.eval s=.slice (some ⟨w.heap.size,0,none⟩) 0 0:=by rfl) (hx:a.eval x=.slice ad xs.length cap:=by rfl):wpList P ops Q (o::rest) a (w.alloc (.cells #[] e)):=by
 obtain⟨hu,⟨i,z,hi,hz,h1,h2,h3⟩,hp,oh⟩:=T;obtain⟨p,rfl⟩:∃ p,ad=some p:=by cases ad with|none=>exact absurd rfl hne|some p=>exact⟨p,rfl⟩
 have hn:xs.length≤maxLen:=by
  have:xs.length*1≤xs.length*bytes:=zw _ oh;unfold maxLen;omega
 have hnews:∀ j u,(xs.flatMap en)[j]? = some u→(w.alloc (.cells #[] e)).cell? (p.add j)=some u:=by
  intro j u hu;have hj:j < (xs.flatMap en).length:=(zt.1 hu).1;obtain⟨b,off,e1,e2⟩:=Sl.at' (bA.alloc hs (.cells #[] e)) j hj;cases e1
  rw[Addr.add_lit,e2];exact hu
 have Vo:∀ u∈xs.flatMap en,u.oneCell' = true:=fun u hu=>by
  obtain⟨y,hm,hy⟩:=List.mem_flatMap.1 hu;exact hone y hm u hy
 refine wpList_append_own _ hgd s x t ho w.heap.size e i z size bytes hu hi hz h1 h2 h3 hp _ 0 [] hs0 (World.ownsRow_made w #[] 0 af (bV _) aB) p xs.length cap (xs.flatMap en) hx (by rw[o7 hen]) hnews Vo ae (by rw[kF];exact hbound) aB ?_;intro v' w' hown hg _;refine h v' w' ?_ (((aC _ w).alloc af _).grown hg aB (fun k hk=>by simp[Value.ownBlock]at hk;omega));unfold aG
 simpa using hown
theorem aky (y:List UInt8):∀ u∈dr y,u.oneCell' = true:=Bd
theorem akz (y:Int×List UInt8):∀ u∈fS y,u.oneCell' = true:=PZ
theorem adL (l:List (List UInt8)) (n:Nat) (hn:n=l.length) (a:Option Addr) (cap:Nat) (w:World) (hs:xS w a cap l) (hr:l.length*16≤140737488355328) :
  Calls prog 97 #[.slice a n cap] w fun e w'=>∃ v,e=.returned v∧aG w' w.heap.size 9 1 dr v l∧Below w.heap.size w w':=by
 subst hn;have hq:=fun (w:World) (a:Option Addr) (n c:Nat)=>Lib.run_eql_slice_nil (P:=prog) w 27 _ a n c 0 0 underlying27
 cases a with
 | none=>
  have h0:l=[]:=pS.1 Vb;subst h0;go_enter func97,ntmps97
  exact UE
 | some p=>
  go_enter func97,ntmps97
  go_wp2_with (at_builtin;go_loud (refine VR xJ l akA (fun y _=>aky y) hs hr aB ?_))
  exact UL
theorem akB (l:List (Int×List UInt8)) (n:Nat) (hn:n=l.length) (a:Option Addr) (cap:Nat) (w:World) (hs:bA w fS 2 a cap l) (hr:l.length*24≤140737488355328) :
  Calls prog 99 #[.slice a n cap] w fun e w'=>∃ v,e=.returned v∧aG w' w.heap.size 45 2 fS v l∧Below w.heap.size w w':=by
 subst hn;have hq:=fun (w:World) (a:Option Addr) (n c:Nat)=>Lib.run_eql_slice_nil (P:=prog) w 41 _ a n c 0 0 underlying41
 cases a with
 | none=>
  have h0:l=[]:=pS.1 Vb;subst h0;go_enter func99,ntmps99
  exact UE
 | some p=>
  go_enter func99,ntmps99
  go_wp2_with (at_builtin;go_loud (refine VR LX l adM (fun y _=>akz y) hs hr aB ?_))
  exact UL
def VS {n:Nat} (r:Row n):Prop:=∀ u∈r.en,u.oneCell' = true
theorem akC (l:List (Row 19)) (h1:∀ r:Row 19,r∈l→VS r) (n:Nat) (hn:n=l.length) (a:Option Addr) (cap:Nat) (w:World) (hs:bA w Row.en 19 a cap l) (hr:l.length*176≤140737488355328) :
  Calls prog 98 #[.slice a n cap] w fun e w'=>∃ v,e=.returned v∧aG w' w.heap.size 63 19 Row.en v l∧Below w.heap.size w w':=by
 subst hn;have hq:=fun (w:World) (a:Option Addr) (n c:Nat)=>Lib.run_eql_slice_nil (P:=prog) w 37 _ a n c 0 0 underlying37
 cases a with
 | none=>
  have h0:l=[]:=pS.1 Vb;subst h0;go_enter func98,ntmps98
  exact UE
 | some p=>
  go_enter func98,ntmps98
  go_wp2_with (at_builtin;go_loud (refine VR IW l Row.pU h1 hs hr aB ?_))
  exact UL
theorem QP (l:List (List UInt8)) (n:Nat) (hn:n=l.length) (a:Option Addr) (cap:Nat) (w:World) (hs:xS w a cap l) (hr:l.length*16≤140737488351232) :
  Calls prog 15 #[.slice a n cap] w fun e w'=>∃ v,e=.returned v∧aG w' w.heap.size 9 1 dr v l∧Below w.heap.size w w':=by
 subst hn;go_enter func15,ntmps15
 go_wp2_with fail;go_loopw [3,4] (fun v i wr=>∃ k:Nat,k≤l.length∧i=.int .i64 k∧aG wr w.heap.size 9 1 dr v (l.take k)∧Below w.heap.size w wr) (fun _ i _=>l.length - (intOf i).toNat)
 case atStart=>exact⟨0,bV _,rfl,aG.nil _ _ _ _ _,aC _ _⟩
 case round=>
  obtain⟨k,hk,rfl,hown,bP⟩:=hrel;by_cases hlt:k < l.length
  ·obtain⟨b,o,rfl,hb,hc0⟩:=xS.at (hs.keep bP af) hlt;go_wp2_with (at_builtin;go_loud (refine BK xJ (l.take k) l[k] hown bP af cO ?_ (hone:=Bd)))
   intro v' w1 hown1 hb1;clear hown bP hc0;go_wp2_with fail;go_roundw;case rel=>exact⟨k+1,ae,bL,hown1,hb1⟩
   case measure=>exact bY
  ·exact KW
theorem LZ.at {w:World} {a:Option Addr} {cap:Nat} {l:List (Int×List UInt8)} (h:bA w fS 2 a cap l) {k:Nat} (hk:k < l.length) :
  ∃ b o,a=some ⟨b,o,none⟩∧b < w.heap.size∧w.cell? ⟨b,o+k*2,none⟩=some (.int .i64 l[k].1)∧w.cell? ⟨b,o+k*2+1,none⟩=some (.string ⟨l[k].2.toArray⟩):=by
 obtain⟨b,o,rfl,hb,hc⟩:=bA.cells h adM ah hk;exact acn
theorem akT (l:List (Int×List UInt8)) (n:Nat) (hn:n=l.length) (a:Option Addr) (cap:Nat) (w:World) (hs:bA w fS 2 a cap l) (hr:l.length*24≤140737488351232) :
  Calls prog 182 #[.slice a n cap] w fun e w'=>∃ v,e=.returned v∧aG w' w.heap.size 45 2 fS v l∧Below w.heap.size w w':=by
 subst hn;go_enter func182,ntmps182
 go_wp2_with fail;go_loopw [3,4] (fun v i wr=>∃ k:Nat,k≤l.length∧i=.int .i64 k∧aG wr w.heap.size 45 2 fS v (l.take k)∧Below w.heap.size w wr) (fun _ i _=>l.length - (intOf i).toNat)
 case atStart=>exact⟨0,bV _,rfl,aG.nil _ _ _ _ _,aC _ _⟩
 case round=>
  obtain⟨k,hk,rfl,hown,bP⟩:=hrel;by_cases hlt:k < l.length
  ·obtain⟨b,o,rfl,hb,hc0,hc1⟩:=LZ.at (hs.keep bP af) hlt;go_wp2_with (at_builtin;go_loud (refine BK LX (l.take k) l[k] hown bP af cO ?_ (hone:=PZ)))
   intro v' w1 hown1 hb1;clear hown bP hc0 hc1;go_wp2_with fail;go_roundw;case rel=>exact⟨k+1,ae,bL,hown1,hb1⟩
   case measure=>exact bY
  ·exact KW
theorem akU (x:et) (w:World) (cs:Array Value) (hx:xU w x cs.toList) (hr:x.rs.length*16≤140737488351232) (B:Nat) (hB:B≤w.heap.size) :
  Calls prog 210 #[.agg cs] w fun e w'=>∃ C:Array Value,e=.returned (.agg C)∧(mW B) w' x C.toList∧Below w.heap.size w w':=by
 obtain⟨d,l⟩:=x;obtain⟨a,cap,iu,hs⟩:=hx;obtain rfl:cs=d.cells (.slice a l.length cap):=eA.1 iu;clear iu;simp only at hs hr ⊢;obtain⟨n,hn⟩:∃ n,n=l.length:=⟨_,rfl⟩
 rw[← hn];have c:=fun W hW=>QP l n hn a cap W hW hr
 clear hn hr;have e0:=dI.nO d (.slice a n cap);have e1:=dI.cells_one d a n cap;have e2:=dI.xV d (.slice a n cap);refine aY (dI.zX d (.slice a n cap)) (dI.cells_one d) (dI.nO d) ?_;intro ES EO EZ;have e3:∀ h,(d.cells (.slice a n cap))[18]'h=.slice a n cap:=fun _=>rfl
 generalize d.cells (.slice a n cap)=C at *;obtain⟨zb,-,gw⟩:=rj w C kL 63 63;have hu:=underlying63;have hb3:Below w.heap.size w (((w.alloc (.cells C 63)).alloc (.cells kL 63)).alloc (.cells C 63)):=gw.2.alloc cO _;go_enter func210,ntmps210
 go_wp2_with (first|(refine fG zb 63 (.tmp 1) hu (by rw[e0];exact uA) ?_)|(refine eX (Z:=kL) (cs:=C) 63 (.tmp 3) (.tmp 4) (by rw[e0];exact Jc) (by rw[e0];rfl) e1 ?_))
 refine jH (c _ (hs.keep hb3 af)) ?_;intro w1 v ho hb
 obtain⟨a2,c2,rfl,-⟩:=ho.shape;have hb4:=aH hb3 hb af;have t3:=((ai.new _ C 63).keep hb af)
 have t2:=(((ai.new _ kL 63).alloc (.cells C 63)).keep hb af)
 simp only[jW]at t3 t2;have T3:=Qh ((t3.put 18 (.slice a2 l.length c2)));have T2:=Qh (t2.other (a:=⟨w.heap.size+1+1,18,none⟩) (show w.heap.size+1+1≠w.heap.size+1 by omega) (.slice a2 l.length c2));rw[ES.o]at T3;have f0:=t3.cell 18 _ e2;have f1:=t3.free 18;have q0:=EZ.o (.slice a2 l.length c2);have q1:=EO.o a2 l.length c2;refine aY ho hb4 hb.size ?_;intro HO fe gD;generalize hD:d.cells (.slice a2 l.length c2)=D at *;have HD:=Qh hD;clear hD;clear t3 t2 hb hb3 hb4 c zb e1 hs ho;go_wp2_with (first|(refine fG T3.o 63 (.tmp 3) hu (by rw[q0];exact uA) ?_)|(refine iC T2.o 63 (.tmp 2) (.tmp 9) (by rw[q0];exact uA) zr q1 ?_))
 have hrun:=fo (T2.o.row D) 63 _ hu rfl (by rw[q0];exact uA);have hb5:=fe.o;refine Pj ?_;intro hz;refine bB (v:=.agg D) (by simp[results,results210,Act.put,asAddr,hrun]) rfl ⟨D,rfl,⟨_,by rw[← HD.o],?_⟩,?_⟩
 ·exact Ue
 ·exact OL
theorem aeg:∀ (l:List Value) (k:Nat) (Z:Array Value),k+l.length≤Z.size →
  ((l.zipIdx k).foldl (fun (cs:Array Value) x=>cs.setIfInBounds x.2 x.1) Z).toList=Z.toList.take k++l++Z.toList.drop (k+l.length)
 | [],k,Z,h=>aB
 | v::l,k,Z,h=>by
  simp only[dz]at h;have hk:k < Z.toList.length:=(by rw[Bu];omega);rw[List.zipIdx_cons,List.foldl_cons,aeg l (k+1) (Z.setIfInBounds k v) (by rw[Array.size_setIfInBounds];omega)];rw[Array.toList_setIfInBounds,List.set_eq_take_append_cons_drop,if_pos hk];have e1:(Z.toList.take k).length=k:=Fe;have e2:List.take (k+1) (List.take k Z.toList++v::List.drop (k+1) Z.toList)=List.take k Z.toList++[v]:=by
   rw[List.take_append,e1,IA (by rw[e1];omega)];simp
  have e3:List.drop (k+1+l.length) (List.take k Z.toList++v::List.drop (k+1) Z.toList)=List.drop (k+1+l.length) Z.toList:=by
   rw[List.drop_append,e1,rP (by rw[e1];omega),mf,show k+1+l.length - k=l.length+1 by omega,List.drop_succ_cons,lG]
  rw[e2,e3];simp only[o6,uD,mf,dz];rw[show k+1+l.length=k+(l.length+1)by omega]
theorem ze (Z C:Array Value) (n:Nat) (hC:C.size=n) (hZ:Z.size=n):Array.foldl (fun (cs:Array Value) x=>cs.setIfInBounds x.2 x.1) Z C.zipIdx 0 n=C:=by
 subst hC;have e:C.size=C.zipIdx.size:=aB;apply Array.ext';have h:=aeg C.toList 0 Z cO;rw[e,← Array.foldl_toList,Array.toList_zipIdx,h];simp[hZ]
theorem aiM {B:Nat} {w:World} {x:et} {cs:List Value} (h:(mW B) w x cs):cs.length=19:=by
 obtain⟨v,rfl,_⟩:=h;rfl
theorem QQ {B:Nat} {w:World} {x:et} {C:Array Value} (h:(mW B) w x C.toList):C.all (·.oneCell')=true:=by
 obtain⟨v,e,ho⟩:=h;obtain⟨a,cap,rfl,_⟩:=ho.shape;rw[eA.1 e];exact dI.cells_one _ _ _ _
theorem akV (l:List et) (n:Nat) (hn:n=l.length) (a:Option Addr) (cap:Nat) (w:World) (hs:ei w xU 19 a cap l) (hr:l.length*176≤140737488351232) (hr2:∀ x∈l,x.rs.length*16≤140737488351232) (B:Nat) (hB:B≤w.heap.size) :
  Calls prog 181 #[.slice a n cap] w fun e w'=>∃ v,e=.returned v∧aZ w' w.heap.size 63 (mW B) 19 v l∧Below w.heap.size w w':=by
 subst hn;have hu:=underlying63;go_enter func181,ntmps181
 go_wp2_with fail;go_loopw [3,4] (fun v i wr=>∃ k:Nat,k≤l.length∧i=.int .i64 k∧aZ wr w.heap.size 63 (mW B) 19 v (l.take k)∧Below w.heap.size w wr) (fun _ i _=>l.length - (intOf i).toNat)
 case atStart=>exact UH
 case round=>
  obtain⟨k,hk,rfl,hown,bP⟩:=hrel;by_cases hlt:k < l.length
  ·obtain⟨b,o,rfl,hb,cs,hcl,ep,hrg⟩:=ei.at (hs.keep BR bP) ah hlt;have c:=akU l[k] wr cs.toArray ep (hr2 _ (gU hlt)) B (bQ hB bP.size);have hsz:(prog.info? 63).map (·.size)=some cs.length:=(by rw[hcl];exact uA);go_wp2_with (refine wpList_load_mid rfl 63 (.tmp 14) rfl b (o+k*19) rfl cs _ hrg hu rfl hsz ?_)
   refine jH c ?_;intro w1 C dP hb1;have hC:C.size=19:=PC;have gN:=QQ dP;obtain⟨nb,-,cH⟩:=ri w1 C 63;have Ms:=(vB B) _ _ _ _ dP cH;have rr:=(hown.keep (vB B) hb1).keep (vB B) cH;have DS:=aH (aH bP hb1 af) cH af;have p7:=ze kL C 19 hC rfl;clear hown bP hb1 hrg ep dP cH c;go_wp2_with (first|(at_builtin;go_loud (refine xW (vB B) IW (l.take k) l[k] rr DS af cO Ms hC gN (vw B ah) ?_ (hx:=P0)))|(refine eX (Z:=kL) (cs:=C) 63 (.tmp 5) (.tmp 16) (by rw[hC];exact Jc) (by rw[hC];rfl) gN ?_)|(refine fG nb 63 (.tmp 5) hu (by rw[hC];exact uA) ?_))
   intro v' w3 BS hb3 hg3;clear rr DS nb;go_wp2_with fail;go_roundw;case rel=>exact⟨k+1,ae,bL,BS,hb3⟩
   case measure=>exact bY
  ·exact KW
theorem bj.nO (d:bj) (tv:Value):(d.cells tv).size=8:=rfl
theorem bj.cells_one (d:bj) (a:Option Addr) (n c:Nat):(d.cells (.slice a n c)).all (·.oneCell')=true:=by unfold bj.cells;simp[Value.oneCell']
theorem bj.xV (d:bj) (tv:Value):(d.cells tv)[7]? = some tv:=rfl
theorem bj.zX (d:bj) (tv v:Value):(d.cells tv).setIfInBounds 7 v=d.cells v:=rfl
abbrev fE:Array Value:=#[.int .i64 0,.int .i64 0,.int .u32 0,.bool false,.string ⟨#[]⟩,.int .i64 0,.string ⟨#[]⟩,.slice none 0 0]
theorem DT:(prog.info? 39).map (fun i=>(i.zero,i.size))=some (some (.agg fE),8):=aj
theorem ql:(prog.info? 39).map (·.size)=some 8:=aj
theorem bK.nO (d:bK) (tv:Value):(d.cells tv).size=6:=rfl
theorem bK.cells_one (d:bK) (a:Option Addr) (n c:Nat):(d.cells (.slice a n c)).all (·.oneCell')=true:=by unfold bK.cells;simp[Value.oneCell']
theorem bK.xV (d:bK) (tv:Value):(d.cells tv)[5]? = some tv:=rfl
theorem bK.zX (d:bK) (tv v:Value):(d.cells tv).setIfInBounds 5 v=d.cells v:=rfl
abbrev iD:Array Value:=#[.int .i64 0,.int .i64 0,.int .u32 0,.bool false,.string ⟨#[]⟩,.slice none 0 0]
theorem FW:(prog.info? 43).map (fun i=>(i.zero,i.size))=some (some (.agg iD),6):=aj
theorem rM:(prog.info? 43).map (·.size)=some 6:=aj
theorem fH.nO (d:fH) (tv:Value):(d.cells tv).size=3:=rfl
theorem fH.cells_one (d:fH) (a:Option Addr) (n c:Nat):(d.cells (.slice a n c)).all (·.oneCell')=true:=by unfold fH.cells;simp[Value.oneCell']
theorem fH.xV (d:fH) (tv:Value):(d.cells tv)[2]? = some tv:=rfl
theorem fH.zX (d:fH) (tv v:Value):(d.cells tv).setIfInBounds 2 v=d.cells v:=rfl
abbrev tI:Array Value:=#[.int .i64 0,.int .i64 0,.slice none 0 0]
theorem adO:(prog.info? 29).map (fun i=>(i.zero,i.size))=some (some (.agg tI),3):=aj
theorem U8:(prog.info? 29).map (·.size)=some 3:=aj
theorem akW (x:bj) (w:World) (cs:Array Value) (hx:ru w x cs.toList) (hr:x.sigs.length*176≤140737488351232) (hr2:∀ s∈x.sigs,s.rs.length*16≤140737488351232) (B:Nat) (hB:B≤w.heap.size) :
  Calls prog 163 #[.agg cs] w fun e w'=>∃ C:Array Value,e=.returned (.agg C)∧jK B w' x C.toList∧Below w.heap.size w w':=by
 obtain⟨a,cap,iu,hs⟩:=hx;obtain rfl:cs=x.cells (.slice a x.sigs.length cap):=eA.1 iu;clear iu;have e0:=bj.nO x (.slice a x.sigs.length cap);have e1:=bj.cells_one x a x.sigs.length cap;have e2:=bj.xV x (.slice a x.sigs.length cap);refine aY (bj.zX x (.slice a x.sigs.length cap)) (bj.cells_one x) (bj.nO x) ?_;intro ES EO EZ;have e3:∀ h,(x.cells (.slice a x.sigs.length cap))[7]'h=.slice a x.sigs.length cap:=fun _=>rfl
 have c:=fun W hW hWB=>akV x.sigs x.sigs.length rfl a cap W hW hr hr2 B hWB
 generalize x.cells (.slice a x.sigs.length cap)=C at *;obtain⟨zb,-,gw⟩:=rj w C fE 39 39;have hu:=underlying39;have hb3:Below w.heap.size w (((w.alloc (.cells C 39)).alloc (.cells fE 39)).alloc (.cells C 39)):=gw.2.alloc cO _;have DU:=Qh (hs.keep BR hb3);clear hs;go_enter func163,ntmps163
 go_wp2_with (first|(refine fG zb 39 (.tmp 1) hu (by rw[e0];exact ql) ?_)|(refine eX (Z:=fE) (cs:=C) 39 (.tmp 3) (.tmp 4) (by rw[e0];exact DT) (by rw[e0];rfl) e1 ?_))
 refine jH (c _ DU.o (bQ hB (by simp only[jW];omega))) ?_;intro w1 v ho hb
 obtain⟨a2,c2,rfl,-⟩:=ho.shape;have hb4:=aH hb3 hb af;have t3:=((ai.new _ C 39).keep hb af)
 have t2:=(((ai.new _ fE 39).alloc (.cells C 39)).keep hb af)
 have sj:=Qh ((hb.block (w.heap.size+1) aB).trans (show _=some (.cells fE 39)by rw[zG _ _ _ aB];simpa using dK (w.alloc (.cells C 39)) (.cells fE 39)));have FX:=Qh ((hb.block (w.heap.size+2) aB).trans (show _=some (.cells C 39)by simpa using dK ((w.alloc (.cells C 39)).alloc (.cells fE 39)) (.cells C 39)));simp only[jW]at t3 t2;have T3:=Qh ((t3.put 7 (.slice a2 x.sigs.length c2)));have T2:=Qh (t2.other (a:=⟨w.heap.size+1+1,7,none⟩) (show w.heap.size+1+1≠w.heap.size+1 by omega) (.slice a2 x.sigs.length c2));rw[ES.o]at T3;have f0:=t3.cell 7 _ e2;have f1:=t3.free 7;have q0:=EZ.o (.slice a2 x.sigs.length c2);have q1:=EO.o a2 x.sigs.length c2;refine aY ho hb4 hb.size ?_;intro HO fe gD;generalize hD:x.cells (.slice a2 x.sigs.length c2)=D at *;have HD:=Qh hD;clear hD;clear t3 t2 hb hb3 hb4 c zb e1 ho;go_wp2_with (first|(refine fG T3.o 39 (.tmp 3) hu Ik ?_)|(refine iC T2.o 39 (.tmp 2) (.tmp 9) Ik zr q1 ?_))
 have hrun:=fo (T2.o.row D) 39 _ hu rfl Ik;have hb5:=fe.o;refine Pj ?_;intro hz;refine bB (v:=.agg D) (by simp[results,results163,Act.put,asAddr,hrun]) rfl ⟨D,rfl,⟨_,by rw[← HD.o],?_⟩,?_⟩
 ·have h1:=aZ.dn (w':=w1.setCell ⟨w.heap.size+2,7,none⟩ (.slice a2 x.sigs.length c2)) HO.o ah (vw B ah) FX.o pR (fun b _ hne=>dN _ _ _ _ hne);have hk2:(w1.setCell ⟨w.heap.size+2,7,none⟩ (.slice a2 x.sigs.length c2)).heap[w.heap.size+1]? = some (.cells fE 39):=(dN _ _ _ _ (by show w.heap.size+1≠w.heap.size+2;omega)).trans sj.o;have h2:=aZ.dn (w':=(w1.setCell ⟨w.heap.size+2,7,none⟩ (.slice a2 x.sigs.length c2)).setRow (w.heap.size+1) D) h1 ah (vw B ah) hk2 qX (fun b _ hne=>gK _ _ _ _ hne);exact h2.fU (bQ hB (by simp only[jW];omega))
 ·exact OL
theorem akX (x:bK) (w:World) (cs:Array Value) (hx:su w x cs.toList) (hr:x.rows.length*24≤140737488351232) (B:Nat) (hB:B≤w.heap.size) :
  Calls prog 164 #[.agg cs] w fun e w'=>∃ C:Array Value,e=.returned (.agg C)∧nN B w' x C.toList∧Below w.heap.size w w':=by
 obtain⟨a,cap,iu,hs⟩:=hx;obtain rfl:cs=x.cells (.slice a x.rows.length cap):=eA.1 iu;clear iu;have e0:=bK.nO x (.slice a x.rows.length cap);have e1:=bK.cells_one x a x.rows.length cap;have e2:=bK.xV x (.slice a x.rows.length cap);refine aY (bK.zX x (.slice a x.rows.length cap)) (bK.cells_one x) (bK.nO x) ?_;intro ES EO EZ;have e3:∀ h,(x.cells (.slice a x.rows.length cap))[5]'h=.slice a x.rows.length cap:=fun _=>rfl
 have c:=fun W hW=>akT x.rows x.rows.length rfl a cap W hW hr
 generalize x.cells (.slice a x.rows.length cap)=C at *;obtain⟨zb,-,gw⟩:=rj w C iD 43 43;have hu:=underlying43;have hb3:Below w.heap.size w (((w.alloc (.cells C 43)).alloc (.cells iD 43)).alloc (.cells C 43)):=gw.2.alloc cO _;have DU:=Qh (hs.keep hb3 af);clear hs;go_enter func164,ntmps164
 go_wp2_with (first|(refine fG zb 43 (.tmp 1) hu (by rw[e0];exact rM) ?_)|(refine eX (Z:=iD) (cs:=C) 43 (.tmp 3) (.tmp 4) (by rw[e0];exact FW) (by rw[e0];rfl) e1 ?_))
 refine jH (c _ DU.o) ?_;intro w1 v ho hb
 obtain⟨a2,c2,rfl,-⟩:=ho.shape;have hb4:=aH hb3 hb af;have t3:=((ai.new _ C 43).keep hb af)
 have t2:=(((ai.new _ iD 43).alloc (.cells C 43)).keep hb af)
 have sj:=Qh ((hb.block (w.heap.size+1) aB).trans (show _=some (.cells iD 43)by rw[zG _ _ _ aB];simpa using dK (w.alloc (.cells C 43)) (.cells iD 43)));have FX:=Qh ((hb.block (w.heap.size+2) aB).trans (show _=some (.cells C 43)by simpa using dK ((w.alloc (.cells C 43)).alloc (.cells iD 43)) (.cells C 43)));simp only[jW]at t3 t2;have T3:=Qh ((t3.put 5 (.slice a2 x.rows.length c2)));have T2:=Qh (t2.other (a:=⟨w.heap.size+1+1,5,none⟩) (show w.heap.size+1+1≠w.heap.size+1 by omega) (.slice a2 x.rows.length c2));rw[ES.o]at T3;have f0:=t3.cell 5 _ e2;have f1:=t3.free 5;have q0:=EZ.o (.slice a2 x.rows.length c2);have q1:=EO.o a2 x.rows.length c2;refine aY ho hb4 hb.size ?_;intro HO fe gD;generalize hD:x.cells (.slice a2 x.rows.length c2)=D at *;have HD:=Qh hD;clear hD;clear t3 t2 hb hb3 hb4 c zb e1 ho;go_wp2_with (first|(refine fG T3.o 43 (.tmp 3) hu Il ?_)|(refine iC T2.o 43 (.tmp 2) (.tmp 9) Il zr q1 ?_))
 have hrun:=fo (T2.o.row D) 43 _ hu rfl Il;have hb5:=fe.o;refine Pj ?_;intro hz;refine bB (v:=.agg D) (by simp[results,results164,Act.put,asAddr,hrun]) rfl ⟨D,rfl,⟨_,by rw[← HD.o],?_⟩,?_⟩
 ·exact Ue
 ·exact OL
theorem akY (x:fH) (w:World) (cs:Array Value) (hx:FY w x cs.toList) (hr:x.names.length*16≤140737488351232) (B:Nat) (hB:B≤w.heap.size) :
  Calls prog 126 #[.agg cs] w fun e w'=>∃ C:Array Value,e=.returned (.agg C)∧QR B w' x C.toList∧Below w.heap.size w w':=by
 obtain⟨a,cap,iu,hs⟩:=hx;obtain rfl:cs=x.cells (.slice a x.names.length cap):=eA.1 iu;clear iu;have e0:=fH.nO x (.slice a x.names.length cap);have e1:=fH.cells_one x a x.names.length cap;have e2:=fH.xV x (.slice a x.names.length cap);refine aY (fH.zX x (.slice a x.names.length cap)) (fH.cells_one x) (fH.nO x) ?_;intro ES EO EZ;have e3:∀ h,(x.cells (.slice a x.names.length cap))[2]'h=.slice a x.names.length cap:=fun _=>rfl
 have c:=fun W hW=>QP x.names x.names.length rfl a cap W hW hr
 generalize x.cells (.slice a x.names.length cap)=C at *;obtain⟨zb,-,gw⟩:=rj w C tI 29 29;have hu:=underlying29;have hb3:Below w.heap.size w (((w.alloc (.cells C 29)).alloc (.cells tI 29)).alloc (.cells C 29)):=gw.2.alloc cO _;have DU:=Qh (hs.keep hb3 af);clear hs;go_enter func126,ntmps126
 go_wp2_with (first|(refine fG zb 29 (.tmp 1) hu (by rw[e0];exact U8) ?_)|(refine eX (Z:=tI) (cs:=C) 29 (.tmp 3) (.tmp 4) (by rw[e0];exact adO) (by rw[e0];rfl) e1 ?_))
 refine jH (c _ DU.o) ?_;intro w1 v ho hb
 obtain⟨a2,c2,rfl,-⟩:=ho.shape;have hb4:=aH hb3 hb af;have t3:=((ai.new _ C 29).keep hb af)
 have t2:=(((ai.new _ tI 29).alloc (.cells C 29)).keep hb af)
 have sj:=Qh ((hb.block (w.heap.size+1) aB).trans (show _=some (.cells tI 29)by rw[zG _ _ _ aB];simpa using dK (w.alloc (.cells C 29)) (.cells tI 29)));have FX:=Qh ((hb.block (w.heap.size+2) aB).trans (show _=some (.cells C 29)by simpa using dK ((w.alloc (.cells C 29)).alloc (.cells tI 29)) (.cells C 29)));simp only[jW]at t3 t2;have T3:=Qh ((t3.put 2 (.slice a2 x.names.length c2)));have T2:=Qh (t2.other (a:=⟨w.heap.size+1+1,2,none⟩) (show w.heap.size+1+1≠w.heap.size+1 by omega) (.slice a2 x.names.length c2));rw[ES.o]at T3;have f0:=t3.cell 2 _ e2;have f1:=t3.free 2;have q0:=EZ.o (.slice a2 x.names.length c2);have q1:=EO.o a2 x.names.length c2;refine aY ho hb4 hb.size ?_;intro HO fe gD;generalize hD:x.cells (.slice a2 x.names.length c2)=D at *;have HD:=Qh hD;clear hD;clear t3 t2 hb hb3 hb4 c zb e1 ho;go_wp2_with (first|(refine fG T3.o 29 (.tmp 3) hu Im ?_)|(refine iC T2.o 29 (.tmp 2) (.tmp 9) Im zr q1 ?_))
 have hrun:=fo (T2.o.row D) 29 _ hu rfl Im;have hb5:=fe.o;refine Pj ?_;intro hz;refine bB (v:=.agg D) (by simp[results,results126,Act.put,asAddr,hrun]) rfl ⟨D,rfl,⟨_,by rw[← HD.o],?_⟩,?_⟩
 ·exact Ue
 ·exact OL
theorem adP {B:Nat} {w:World} {x:bj} {cs:List Value} (h:jK B w x cs):cs.length=8:=by
 obtain⟨v,rfl,_⟩:=h;rfl
theorem adQ {B:Nat} {w:World} {x:bj} {C:Array Value} (h:jK B w x C.toList):C.all (·.oneCell')=true:=by
 obtain⟨v,e,ho⟩:=h;obtain⟨a,cap,rfl,_⟩:=ho.shape;rw[eA.1 e];exact bj.cells_one _ _ _ _
theorem QS:eO prog 30 39 8 88:=eO.mk' (.agg fE) underlying30 aj rfl ah ah
theorem akZ (l:List bj) (n:Nat) (hn:n=l.length) (a:Option Addr) (cap:Nat) (w:World) (hs:ei w ru 8 a cap l) (hr:l.length*88≤140737488351232) (hr2:∀ x∈l,x.sigs.length*176≤140737488351232∧∀ s∈x.sigs,s.rs.length*16≤140737488351232) (B:Nat) (hB:B≤w.heap.size) :
  Calls prog 124 #[.slice a n cap] w fun e w'=>∃ v,e=.returned v∧aZ w' w.heap.size 39 (jK B) 8 v l∧Below w.heap.size w w':=by
 subst hn;have hu:=underlying39;go_enter func124,ntmps124
 go_wp2_with fail;go_loopw [3,4] (fun v i wr=>∃ k:Nat,k≤l.length∧i=.int .i64 k∧aZ wr w.heap.size 39 (jK B) 8 v (l.take k)∧Below w.heap.size w wr) (fun _ i _=>l.length - (intOf i).toNat)
 case atStart=>exact UH
 case round=>
  obtain⟨k,hk,rfl,hown,bP⟩:=hrel;by_cases hlt:k < l.length
  ·obtain⟨b,o,rfl,hb,cs,hcl,ep,hrg⟩:=ei.at (hs.keep iE bP) ah hlt;have c:=akW l[k] wr cs.toArray ep (hr2 _ (gU hlt)).1 (hr2 _ (gU hlt)).2 B (bQ hB bP.size);have hsz:(prog.info? 39).map (·.size)=some cs.length:=(by rw[hcl];exact ql);go_wp2_with (refine wpList_load_mid rfl 39 (.tmp 14) rfl b (o+k*8) rfl cs _ hrg hu rfl hsz ?_)
   refine jH c ?_;intro w1 C dP hb1;have hC:C.size=8:=(by have:=adP dP;rwa [Bu]at this);have gN:=adQ dP;obtain⟨nb,-,cH⟩:=ri w1 C 39;have Ms:=(qQ B) _ _ _ _ dP cH;have rr:=(hown.keep (qQ B) hb1).keep (qQ B) cH;have DS:=aH (aH bP hb1 af) cH af;have p7:=ze fE C 8 hC rfl;clear hown bP hb1 hrg ep dP cH c;go_wp2_with (first|(at_builtin;go_loud (refine xW (qQ B) QS (l.take k) l[k] rr DS af cO Ms hC gN (lu B ah ah) ?_ (hx:=P0)))|(refine eX (Z:=fE) (cs:=C) 39 (.tmp 5) (.tmp 16) (by rw[hC];exact DT) (by rw[hC];rfl) gN ?_)|(refine fG nb 39 (.tmp 5) hu (by rw[hC];exact ql) ?_))
   intro v' w3 BS hb3 hg3;clear rr DS nb;go_wp2_with fail;go_roundw;case rel=>exact⟨k+1,ae,bL,BS,hb3⟩
   case measure=>exact bY
  ·exact KW
theorem adR {B:Nat} {w:World} {x:bK} {cs:List Value} (h:nN B w x cs):cs.length=6:=by
 obtain⟨v,rfl,_⟩:=h;rfl
theorem adS {B:Nat} {w:World} {x:bK} {C:Array Value} (h:nN B w x C.toList):C.all (·.oneCell')=true:=by
 obtain⟨v,e,ho⟩:=h;obtain⟨a,cap,rfl,_⟩:=ho.shape;rw[eA.1 e];exact bK.cells_one _ _ _ _
theorem VW:eO prog 31 43 6 64:=eO.mk' (.agg iD) underlying31 aj rfl ah ah
theorem ak0 (l:List bK) (n:Nat) (hn:n=l.length) (a:Option Addr) (cap:Nat) (w:World) (hs:ei w su 6 a cap l) (hr:l.length*64≤140737488351232) (hr2:∀ x∈l,x.rows.length*24≤140737488351232) (B:Nat) (hB:B≤w.heap.size) :
  Calls prog 125 #[.slice a n cap] w fun e w'=>∃ v,e=.returned v∧aZ w' w.heap.size 43 (nN B) 6 v l∧Below w.heap.size w w':=by
 subst hn;have hu:=underlying43;go_enter func125,ntmps125
 go_wp2_with fail;go_loopw [3,4] (fun v i wr=>∃ k:Nat,k≤l.length∧i=.int .i64 k∧aZ wr w.heap.size 43 (nN B) 6 v (l.take k)∧Below w.heap.size w wr) (fun _ i _=>l.length - (intOf i).toNat)
 case atStart=>exact UH
 case round=>
  obtain⟨k,hk,rfl,hown,bP⟩:=hrel;by_cases hlt:k < l.length
  ·obtain⟨b,o,rfl,hb,cs,hcl,ep,hrg⟩:=ei.at (hs.keep jP bP) ah hlt;have c:=akX l[k] wr cs.toArray ep (hr2 _ (gU hlt)) B (bQ hB bP.size);have hsz:(prog.info? 43).map (·.size)=some cs.length:=(by rw[hcl];exact rM);go_wp2_with (refine wpList_load_mid rfl 43 (.tmp 14) rfl b (o+k*6) rfl cs _ hrg hu rfl hsz ?_)
   refine jH c ?_;intro w1 C dP hb1;have hC:C.size=6:=(by have:=adR dP;rwa [Bu]at this);have gN:=adS dP;obtain⟨nb,-,cH⟩:=ri w1 C 43;have Ms:=(sf B) _ _ _ _ dP cH;have rr:=(hown.keep (sf B) hb1).keep (sf B) cH;have DS:=aH (aH bP hb1 af) cH af;have p7:=ze iD C 6 hC rfl;clear hown bP hb1 hrg ep dP cH c;go_wp2_with (first|(at_builtin;go_loud (refine xW (sf B) VW (l.take k) l[k] rr DS af cO Ms hC gN (mQ B ah) ?_ (hx:=P0)))|(refine eX (Z:=iD) (cs:=C) 43 (.tmp 5) (.tmp 16) (by rw[hC];exact FW) (by rw[hC];rfl) gN ?_)|(refine fG nb 43 (.tmp 5) hu (by rw[hC];exact rM) ?_))
   intro v' w3 BS hb3 hg3;clear rr DS nb;go_wp2_with fail;go_roundw;case rel=>exact⟨k+1,ae,bL,BS,hb3⟩
   case measure=>exact bY
  ·exact KW
end Go.Proofs.YtfflljgnpfldfaaGreatDoor
