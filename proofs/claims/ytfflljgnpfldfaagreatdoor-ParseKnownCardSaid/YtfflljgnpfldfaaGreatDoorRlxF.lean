/-
  The reference of chapter 04: one: contract.
-/
import Derived.Test.YtfflljgnpfldfaaGreatDoorRlxE
import Derived.Test.YtfflljgnpfldfaaGreatDoorRlxM
set_option linter.all false
set_option maxHeartbeats 128000000
set_option maxRecDepth 100000
namespace Go.Proofs.YtfflljgnpfldfaaGreatDoor
open Go.Proofs.Tryz
open Go.RowKit Go.Shelf
def Fc (u:ig):List Value:=[.int .i64 u.line,.int .i64 u.ak,.int .i32 (u.rune:Nat),.int .i64 (u.wide:Nat),.bool (gF u.rune u.wide)]
theorem asE (u:ig):(Fc u).length=5:=rfl
theorem yX:eO prog 255 258 5 40:=eO.mk' (.agg #[.int .i64 0,.int .i64 0,.int .i32 0,.int .i64 0,.bool false]) underlying255 aj rfl ah ah
theorem Tx {w:World} {a:Option Addr} {cap:Nat} {l:List ig} (h:bA w Fc 5 a cap l) {k:Nat} (hk:k < l.length) :
    ∃ b o,a=some ⟨b,o,none⟩∧b < w.heap.size∧w.cell? ⟨b,o+k*5,none⟩=some (.int .i64 l[k].line)∧w.cell? ⟨b,o+k*5+1,none⟩=some (.int .i64 l[k].ak)∧w.cell? ⟨b,o+k*5+2,none⟩=some (.int .i32 (l[k].rune:Nat))∧w.cell? ⟨b,o+k*5+3,none⟩=some (.int .i64 (l[k].wide:Nat))∧w.cell? ⟨b,o+k*5+4,none⟩=some (.bool (gF l[k].rune l[k].wide)):=by
  obtain⟨b,o,rfl,hb,hc⟩:=bA.cells h asE ah hk;exact⟨b,o,rfl,hb,hc 0 ah,by rw[kE];exact hc 1 ah,by rw[kE];exact hc 2 ah,by rw[kE];exact hc 3 ah,by rw[kE];exact hc 4 ah⟩
theorem asF (R:Nat) (k:Nat) (h:(k=1∧R < 128)∨(k=2∧128≤R∧R≤2047)∨(k=3∧2048≤R∧R≤65535∧(R < 55296∨57344≤R))∨(k=4∧65536≤R∧R≤1114111)):(Utf8.encode (R:Int)).size=k:=by
  have hv:Utf8.valid (R:Int)=true:=by
    unfold Utf8.valid;simp only[nJ,uF,rR];omega
  unfold Utf8.encode;simp only[hv,kG,Int.toNat_natCast];rcases h with ⟨rfl,h1⟩|⟨rfl,h1,h2⟩|⟨rfl,h1,h2,h3⟩|⟨rfl,h1,h2⟩
  · rw[if_pos h1];rfl
  · rw[if_neg ae,if_pos ae];rfl
  · rw[if_neg ae,if_neg ae,if_pos ae];rfl
  · rw[if_neg ae,if_neg ae,if_neg ae];rfl
theorem asG (s:List UInt8) (k:Nat) (hk:k < s.length):∃ R N,ay (s.drop k)=(R,N)∧1≤N∧k+N≤s.length ∧
    ((R≠65533∧gF R N=false∧(Utf8.encode (R:Int)).size=N) ∨
     (R=65533∧N=3∧gF R N=false∧(Utf8.encode (R:Int)).size=N∧k+2 < s.length∧bS s k=239∧bS s (k+1)=191∧bS s (k+2)=189) ∨
     (R=65533∧N=1∧gF R N=true∧(s.length≤k+2∨(k+2 < s.length∧(bS s k≠239∨(bS s k=239∧bS s (k+1)≠191)∨(bS s k=239∧bS s (k+1)=191∧bS s (k+2)≠189)))))):=by
  refine Hv ?_;intro hne;refine qW (pd (s.drop k)) ?_;intro hw;have hw2:=hw.2.2 hne;refine⟨(ay (s.drop k)).1,(ay (s.drop k)).2,rfl,hw.1,ae,?_⟩;have hg:∀ j,(s.drop k).getD j 0=bS s (k+j):=fun j=>by unfold bS;rw[Iv,zy]
  by_cases h:(ay (s.drop k)).1=65533
  · have hi:(ay (s.drop k)).2=1∧¬ (3≤(s.drop k).length∧((s.drop k).getD 0 0).toNat=239∧((s.drop k).getD 1 0).toNat=191∧((s.drop k).getD 2 0).toNat=189)∨(ay (s.drop k)).2=3∧3≤(s.drop k).length∧((s.drop k).getD 0 0).toNat=239∧((s.drop k).getD 1 0).toNat=191∧((s.drop k).getD 2 0).toNat=189:=adB (s.drop k).length ((s.drop k).getD 0 0).toNat ((s.drop k).getD 1 0).toNat ((s.drop k).getD 2 0).toNat ((s.drop k).getD 3 0).toNat (vP _) (vP _) (vP _) h
    rw[e7,hg 0,hg 1,hg 2]at hi;have un:∀ (c:UInt8) (m:UInt8),c.toNat=m.toNat↔c=m:=fun c m=>nK
    have e0:(239:UInt8).toNat=239:=rfl;have e1:(191:UInt8).toNat=191:=rfl;have e2:(189:UInt8).toNat=189:=rfl;rw[← e0,← e1,← e2,un,un,un,q7]at hi
    right
    rcases hi with ⟨h1,h2⟩|⟨h1,h2,h3,h4,h5⟩
    · right
      have h1':(ay (s.drop k)).2=1:=h1;refine⟨h,h1',by rw[h,h1'];rfl,?_⟩;by_cases hl:s.length≤k+2
      · exact .inl hl
      · refine .inr ⟨ae,?_⟩
        by_cases a0:bS s k=239
        · by_cases a1:bS s (k+1)=191
          · by_cases a2:bS s (k+2)=189
            · exact absurd ⟨ae,a0,a1,a2⟩ h2
            · exact .inr (.inr ⟨a0,a1,a2⟩)
          · exact .inr (.inl ⟨a0,a1⟩)
        · exact .inl a0
    · left
      have h1':(ay (s.drop k)).2=3:=h1;exact⟨h,h1',by rw[h,h1'];rfl,by rw[h,h1'];rfl,ae,h3,h4,h5⟩
  · left
    obtain⟨c,n,e,hc⟩:=WM (s.drop k).length ((s.drop k).getD 0 0).toNat ((s.drop k).getD 1 0).toNat ((s.drop k).getD 2 0).toNat ((s.drop k).getD 3 0).toNat;have e':ay (s.drop k)=(c,n):=e;rw[e']at h ⊢;simp only at h ⊢;refine⟨h,by unfold gF;rw[Bool.and_eq_false_iff,gT];exact .inl h,asF c n ?_⟩;rcases hc with hc|hc|hc|hc|hc
    · exact .inl hc
    · exact .inr (.inl hc)
    · exact .inr (.inr (.inl hc))
    · exact .inr (.inr (.inr hc))
    · exact absurd hc.1 h
structure KI (s:List UInt8) (k f:Nat) (L C:Int) (acc:List ig):Prop where
  hk:k≤s.length
  hf:s.length≤f+k
  hv:aK s=acc++dc f (s.drop k) (L,C)
  l1:1≤L
  l2:L≤(k:Int)+1
  c1:1≤C
  c2:C≤(k:Int)+1
  n:acc.length≤k
theorem KI.step {s:List UInt8} {k f:Nat} {L C:Int} {acc:List ig} (h:KI s k (f+1) L C acc) (hlt:k < s.length) {R N:Nat} (he:ay (s.drop k)=(R,N)) (h1:1≤N) (h2:k+N≤s.length):KI s (k+N) f (bW (L,C) R).1 (bW (L,C) R).2 (acc++[⟨L,C,R,N⟩]):=by
  refine Hv ?_;intro hne;obtain⟨a,b,v,d1,d2,d3,d4,n⟩:=h;have hu:dc (f+1) (s.drop k) (L,C)=⟨L,C,R,N⟩::dc f (s.drop (k+N)) (bW (L,C) R):=by
    show(if s.drop k=[] then [] else _)=_;rw[if_neg hne,he,lG]
  have hn:1≤(bW (L,C) R).1∧(bW (L,C) R).1≤L+1∧1≤(bW (L,C) R).2∧(bW (L,C) R).2≤C+1:=by
    unfold bW;split<;>simp only<;>omega
  refine⟨h2,ae,?_,hn.1,ae,hn.2.2.1,ae,xh⟩;rw[v,hu,o6];rfl
structure EM (s:List UInt8) (w:World) (A:Nat) (wr:World) (v:Value) (k:Nat) (acc:List ig):Prop where
  it:wr.heap[A]? = some (.stringIter ⟨s.toArray⟩ k)
  own:aG wr w.heap.size 258 5 Fc v acc
  far:∀ j,v.ownBlock=some j→A < j
  cL:Below w.heap.size w wr
  sz:A < wr.heap.size
  low:w.heap.size≤A
theorem EM.next {s:List UInt8} {w:World} {A:Nat} {wr:World} {v:Value} {k:Nat} {acc:List ig} (h:EM s w A wr v k acc) (k':Nat):EM s w A (wr.iterAt A ⟨s.toArray⟩ k') v k' acc:=
  ⟨Dm wr A ⟨s.toArray⟩ k k' h.it,h.own.of_heap (fun j hj=>Fw _ _ _ _ _ (by have:=h.far j hj;omega)),h.far,
    BB h.cL h.low _ _,by rw[Lib.iterAt_size];exact h.sz,h.low⟩
theorem EM.app {s:List UInt8} {w:World} {A:Nat} {wr w1:World} {v v':Value} {k:Nat} {acc qd:List ig} (h:EM s w A wr v k acc) (ho:aG w1 w.heap.size 258 5 Fc v' qd) (hb:Below w.heap.size w w1) (hg:wr.grownBy w1 v.ownBlock) (hv:∀ k,v'.ownBlock=some k→v.ownBlock=some k∨wr.heap.size≤k):EM s w A w1 v' k qd:=by
  have hsz:=h.sz;exact⟨by rw[hg.block _ hsz (fun e=>by have:=h.far A e.symm;omega)];exact h.it,ho,fun j hj=>PE,hb,iH hsz hg.size,h.low⟩
theorem aav (s:List UInt8) (hs:s.length≤1000000000) (w:World) :
    Calls prog 148 #[.string ⟨s.toArray⟩] w fun e w'=>∃ a c,e=.returned (.slice a (aK s).length c)∧aG w' w.heap.size 258 5 Fc (.slice a (aK s).length c) (aK s)∧Below w.heap.size w w':=by
  have hI0:KI s 0 s.length 1 1 []:=⟨bV _,af,rfl,ah,ah,ah,ah,af⟩
  have h0:EM s w w.heap.size (w.iter ⟨s.toArray⟩ 0) (.slice none 0 0) 0 []:=
    ⟨Dl w ⟨s.toArray⟩ 0,aG.nil _ _ _ _ _,(fun j h=>xq),(aC _ _).alloc af _,by simp[World.iter],af⟩
  have MT:=Qh hI0;have H0:=Qh h0;clear hI0 h0;go_enter func148,ntmps148
  go_wp2_with fail;generalize w.iter ⟨s.toArray⟩ 0=V0 at *;go_loopw [3,4,5] (fun v xl xc wr=>∃ (k f:Nat) (L C:Int) (acc:List ig),xl=.int .i64 L∧xc=.int .i64 C∧KI s k f L C acc∧EM s w w.heap.size wr v k acc) (fun _ _ _ wr=>s.length - wr.iterPos w.heap.size)
  case atStart=>exact⟨0,s.length,1,1,[],rfl,rfl,MT.o,H0.o⟩
  case round=>
    clear H0 MT;obtain⟨k,f,L,C,acc,rfl,rfl,hI,hX⟩:=hrel;have HM:=Qh (rU hX.it:wr.iterPos w.heap.size=k);by_cases hlt:k < s.length
    · obtain⟨f,rfl⟩:∃ g,f=g+1:=⟨f - 1,by have:=hI.hf;omega⟩
      obtain⟨R,N,Jw,QN,zV,ah2⟩:=asG s k hlt;have HST:=Qh (hI.step hlt Jw QN zV);have fR:k < (⟨s.toArray⟩:ByteArray).size:=hlt;have hit:=hX.it;refine aiL ?_;intro dW
      rw[Ba,Jw]at dW;simp only at dW;have HX:=Qh (hX.next (k+N));have hlen:(⟨s.toArray⟩:ByteArray).size=s.length:=rfl;have hwC:IntKind.i64.wrap (C+1)=C+1:=by
        have h3:=hI.c1;have h4:=hI.c2;exact CP
      have hwL:IntKind.i64.wrap (L+1)=L+1:=by
        have h3:=hI.l1;have h4:=hI.l2;exact CP
      have adK:acc.length≤k:=hI.n;generalize wr.iterAt w.heap.size ⟨s.toArray⟩ (k+N)=wv at *;have hR:(((R:Int) == 10)=true∧bW (L,C) R=(L+1,1))∨(((R:Int) == 10)=false∧bW (L,C) R=(L,C+1)):=by
        by_cases h:R=10
        · left;rw[h];exact lz
        · right;exact⟨ft,by unfold bW;rw[if_neg h]⟩
      have HR:=Qh hR;clear hX hI fR hit Jw hR;have hg0:=KJ s k hlt;have asH:(((R:Int) == 65533)=false∧gF R N=false∧(Utf8.encode (R:Int)).size=N) ∨
          (R=65533∧N=3∧k+2 < s.length∧bS s k=239∧bS s (k+1)=191∧bS s (k+2)=189) ∨
          (((R:Int) == 65533)=true∧gF R N=true∧N=1∧(s.length≤k+2∨(k+2 < s.length∧(bS s k≠239∨(bS s k=239∧bS s (k+1)≠191)∨(bS s k=239∧bS s (k+1)=191∧bS s (k+2)≠189))))):=by
        rcases ah2 with ⟨h1,h2,h3⟩|⟨rfl,rfl,h2,h3,h4,h5,h6,h7⟩|⟨rfl,rfl,h2,h4⟩
        · exact .inl ⟨ft,h2,h3⟩
        · exact .inr (.inl ⟨rfl,rfl,h4,h5,h6,h7⟩)
        · exact .inr (.inr ⟨rfl,h2,rfl,h4⟩)
      clear ah2;rcases asH with ⟨g,h2,h3⟩|⟨rfl,rfl,h4,h5,h6,h7⟩|⟨g,h2,h3,h4⟩
      · have Pt:=Qh h2
        clear h2;rcases HR.o with ⟨gR,hn⟩|⟨gR,hn⟩
        · rw[hn]at HST
          clear hn HR;go_wp2_with (at_builtin;go_loud (refine iL yX acc ⟨L,C,R,N⟩ HX.o.own HX.o.cL af ae ?_ (hy:=by show _=[_,_,_,_,Value.bool (gF R N)];rw[Pt.o]) (hone:=xi)))
          refine wR ?_;intro v' w9 gM;go_wp2_with fail;go_roundw;case rel=>exact⟨k+N,f,L+1,1,_,rfl,rfl,HST.o,gM.o⟩
          case measure=>exact wT
        · rw[hn]at HST
          clear hn HR;go_wp2_with (at_builtin;go_loud (refine iL yX acc ⟨L,C,R,N⟩ HX.o.own HX.o.cL af ae ?_ (hy:=by show _=[_,_,_,_,Value.bool (gF R N)];rw[Pt.o]) (hone:=xi)))
          refine wR ?_;intro v' w9 gM;go_wp2_with fail;go_roundw;case rel=>exact⟨k+N,f,L,C+1,_,rfl,rfl,HST.o,gM.o⟩
          case measure=>exact wT
      · have iY:=KJ s (k+1) ae
        have hg2:=KJ s (k+2) h4;have q0:(((bS s k).toNat:Int) != 239)=false:=Hj (k:=239) ah h5;have q1:(((bS s (k+1)).toNat:Int) != 191)=false:=Hj (k:=191) ah h6;have q2:(((bS s (k+2)).toNat:Int) != 189)=false:=Hj (k:=189) ah h7;generalize bS s k=c0 at *;generalize bS s (k+1)=c1 at *;generalize bS s (k+2)=c2 at *;have hcv:∀ w,(convert 21 9 (.int .i32 65533)).run prog w=.ok (.string ⟨#[239,191,189]⟩) w:=fun w=>aj
        have HN:=Qh (show KI s (k+3) f L (C+1) (acc++[⟨L,C,65533,3⟩])from HST.o);have fY:decide ((s.length:Int)≤(k:Int)+2)=false:=dU ae;clear h5 h6 h7 HR HST;go_wp2_with (at_builtin;go_loud (refine iL yX acc ⟨L,C,65533,3⟩ HX.o.own HX.o.cL af ae ?_ (hone:=xi)))
        refine wR ?_;intro v' w9 gM;go_wp2_with fail;go_roundw;case rel=>exact⟨k+3,f,L,C+1,_,rfl,rfl,HN.o,gM.o⟩
        case measure=>exact wT
      · subst h3
        have Pt:=Qh h2;clear h2;rcases h4 with h4|⟨h4,h5⟩
        · rcases HR.o with ⟨gR,hn⟩|⟨gR,hn⟩
          · rw[hn]at HST
            clear hn HR;go_wp2_with (at_builtin;go_loud (refine iL yX acc ⟨L,C,R,1⟩ HX.o.own HX.o.cL af ae ?_ (hy:=Da) (hone:=xi)))
            refine wR ?_;intro v' w9 gM;go_wp2_with fail;go_roundw;case rel=>exact⟨k+1,f,L+1,1,_,rfl,rfl,HST.o,gM.o⟩
            case measure=>exact wT
          · rw[hn]at HST
            clear hn HR;go_wp2_with (at_builtin;go_loud (refine iL yX acc ⟨L,C,R,1⟩ HX.o.own HX.o.cL af ae ?_ (hy:=Da) (hone:=xi)))
            refine wR ?_;intro v' w9 gM;go_wp2_with fail;go_roundw;case rel=>exact⟨k+1,f,L,C+1,_,rfl,rfl,HST.o,gM.o⟩
            case measure=>exact wT
        · have iY:=KJ s (k+1) ae
          have hg2:=KJ s (k+2) h4;have hq:(((bS s k).toNat:Int) != 239)=true∨((((bS s k).toNat:Int) != 239)=false∧(((bS s (k+1)).toNat:Int) != 191)=true)∨((((bS s k).toNat:Int) != 239)=false∧(((bS s (k+1)).toNat:Int) != 191)=false∧(((bS s (k+2)).toNat:Int) != 189)=true):=by
            rcases h5 with h|⟨h,h'⟩|⟨h,h',h''⟩
            · exact .inl (Ty (k:=239) ah h)
            · exact .inr (.inl ⟨Hj (k:=239) ah h,Ty (k:=191) ah h'⟩)
            · exact .inr (.inr ⟨Hj (k:=239) ah h,Hj (k:=191) ah h',Ty (k:=189) ah h''⟩)
          generalize bS s k=c0 at *;generalize bS s (k+1)=c1 at *;generalize bS s (k+2)=c2 at *;clear h5;rcases hq with q0|⟨q0,q1⟩|⟨q0,q1,q2⟩
          · rcases HR.o with ⟨gR,hn⟩|⟨gR,hn⟩
            · rw[hn]at HST
              clear hn HR;go_wp2_with (at_builtin;go_loud (refine iL yX acc ⟨L,C,R,1⟩ HX.o.own HX.o.cL af ae ?_ (hy:=Da) (hone:=xi)))
              refine wR ?_;intro v' w9 gM;go_wp2_with fail;go_roundw;case rel=>exact⟨k+1,f,L+1,1,_,rfl,rfl,HST.o,gM.o⟩
              case measure=>exact wT
            · rw[hn]at HST
              clear hn HR;go_wp2_with (at_builtin;go_loud (refine iL yX acc ⟨L,C,R,1⟩ HX.o.own HX.o.cL af ae ?_ (hy:=Da) (hone:=xi)))
              refine wR ?_;intro v' w9 gM;go_wp2_with fail;go_roundw;case rel=>exact⟨k+1,f,L,C+1,_,rfl,rfl,HST.o,gM.o⟩
              case measure=>exact wT
          · rcases HR.o with ⟨gR,hn⟩|⟨gR,hn⟩
            · rw[hn]at HST
              clear hn HR;go_wp2_with (at_builtin;go_loud (refine iL yX acc ⟨L,C,R,1⟩ HX.o.own HX.o.cL af ae ?_ (hy:=Da) (hone:=xi)))
              refine wR ?_;intro v' w9 gM;go_wp2_with fail;go_roundw;case rel=>exact⟨k+1,f,L+1,1,_,rfl,rfl,HST.o,gM.o⟩
              case measure=>exact wT
            · rw[hn]at HST
              clear hn HR;go_wp2_with (at_builtin;go_loud (refine iL yX acc ⟨L,C,R,1⟩ HX.o.own HX.o.cL af ae ?_ (hy:=Da) (hone:=xi)))
              refine wR ?_;intro v' w9 gM;go_wp2_with fail;go_roundw;case rel=>exact⟨k+1,f,L,C+1,_,rfl,rfl,HST.o,gM.o⟩
              case measure=>exact wT
          · rcases HR.o with ⟨gR,hn⟩|⟨gR,hn⟩
            · rw[hn]at HST
              clear hn HR;go_wp2_with (at_builtin;go_loud (refine iL yX acc ⟨L,C,R,1⟩ HX.o.own HX.o.cL af ae ?_ (hy:=Da) (hone:=xi)))
              refine wR ?_;intro v' w9 gM;go_wp2_with fail;go_roundw;case rel=>exact⟨k+1,f,L+1,1,_,rfl,rfl,HST.o,gM.o⟩
              case measure=>exact wT
            · rw[hn]at HST
              clear hn HR;go_wp2_with (at_builtin;go_loud (refine iL yX acc ⟨L,C,R,1⟩ HX.o.own HX.o.cL af ae ?_ (hy:=Da) (hone:=xi)))
              refine wR ?_;intro v' w9 gM;go_wp2_with fail;go_roundw;case rel=>exact⟨k+1,f,L,C+1,_,rfl,rfl,HST.o,gM.o⟩
              case measure=>exact wT
    · have cz:k=s.length:=by have:=hI.hk;omega
      have HV:=Qh (show aK s=acc by rw[hI.hv,cz,qZ,ah3,pT]);have hit:=hX.it;refine aiJ ?_;intro fR dW
      obtain⟨a,c,rfl,_⟩:=hX.own.shape;have HX:=Qh hX;clear fR hit cz hX hI HM hlt;go_wp2_with fail;go_ret;rw[HV.o];exact⟨a,c,rfl,HX.o.own,HX.o.cL⟩
def Hm (s:List UInt8):Value:=if 1048576 < s.length then .tuple #[.int .i64 5,.agg #[.int .i64 0,.int .i64 0]] else match tG s with
 | none=>.tuple #[.int .i64 0,.agg #[.int .i64 0,.int .i64 0]]
 | some u=>.tuple #[.int .i64 6,.agg #[.int .i64 u.line,.int .i64 u.ak]]
theorem aaD (s:List UInt8):(aK s).length≤s.length:=adv _ _ _
theorem as9 (s:List UInt8) (hs:s.length≤9223372036854775807) (w:World) :
  Calls prog 101 #[.string ⟨s.toArray⟩] w fun e w'=>e=.returned (Hm s)∧Below w.heap.size w w':=by
 have dS:=Qh ((aC w.heap.size w).alloc af (.cells #[.int .i64 0,.int .i64 0] 24));have uq:=Qh (ai.new w #[.int .i64 0,.int .i64 0] 24);obtain⟨V,hV⟩:∃ V,V=Hm s:=⟨_,rfl⟩
 rw[← hV];unfold Hm at hV;by_cases I8:(1048576:Int) < s.length
 ·rw[if_pos ae]at hV;have HN:=Qh hV;clear hV;go_enter func101,ntmps101
  go_wp2_with fail;exact bB (v:=.tuple #[.int .i64 5,.agg #[.int .i64 0,.int .i64 0]]) (by simp[results,results101,go_sem]) rfl ⟨fV,dS.o⟩
 ·rw[if_neg ae]at hV;have cU:=fun w=>aav s ae w
  have HV:=Qh hV;have hbig:decide ((1048576:Int) < s.length)=false:=dU I8;have TI:=aaD s;have q9:=Qh (show s.length≤1048576 by omega);clear hV hs I8;go_enter func101,ntmps101
  go_wp2_with fail;refine aI (cU _) ?_
  rintro e w1 ⟨a,c,rfl,ho,hb⟩;generalize w.alloc (.cells #[.int .i64 0,.int .i64 0] 24)=W at *;refine aY (aH dS.o hb af) (uq.o.keep hb af) ho.sl.2 ?_;intro bX TJ HS;have ata:(aK s).length≤1048576:=(by have:=q9.o;omega);clear hb ho cU hbig dS uq TI q9;obtain⟨r0,r1,f0,f1⟩:=TJ.o.two;go_wp2_with fail;go_loopw [5] (fun x wr=>∃ k:Nat,x=.int .i64 (k:Nat)∧k≤(aK s).length∧(∀ j,(h:j < (aK s).length)→j < k→iZ (aK s)[j].rune (aK s)[j].wide=false)∧wr=w1) (fun x _=>(aK s).length - (intOf x).toNat)
  case atStart=>exact⟨0,rfl,bV _,fun j _ h=>absurd h (Nat.not_lt_zero _),rfl⟩
  case round=>
   obtain⟨k,rfl,hk,hno,rfl⟩:=hrel;by_cases hlt:(k:Int) < (aK s).length
   ·have a8:k < (aK s).length:=ae;obtain⟨b,o,rfl,BX,e0,e1,e2,e3,e4⟩:=Tx HS.o a8;have aaG:=fun hb=>adz a8 hb hno
    have HF:=Qh aaG;have aim:iZ (aK s)[k].rune (aK s)[k].wide=(gF (aK s)[k].rune (aK s)[k].wide || (mj (aK s)[k].rune && !iR (aK s)[k].rune)):=rfl;have je:=Qh (show iZ (aK s)[k].rune (aK s)[k].wide=false→∀ j,(h:j < (aK s).length)→j < k+1→iZ (aK s)[j].rune (aK s)[j].wide=false from fun hb j h h2=>by
     by_cases hj:j < k
     ·exact hno j h hj
     ·obtain rfl:j=k:=by omega
      exact hb)
    have lR:=Qh (show iZ (aK s)[k].rune (aK s)[k].wide=true→V=.tuple #[.int .i64 6,.agg #[.int .i64 (aK s)[k].line,.int .i64 (aK s)[k].ak]]from fun hb=>by
     have h2:=HV.o;rw[show tG s=some (aK s)[k]from aaG hb]at h2;exact h2)
    have cc:=fun w=>ah0 (aK s)[k].rune w
    have cb:=fun w=>ah1 (aK s)[k].rune w
    rw[aim]at je lR;clear aaG HF hno aim HV;generalize gF (aK s)[k].rune (aK s)[k].wide=bi at *;generalize mj (aK s)[k].rune=bc at *;generalize iR (aK s)[k].rune=bb at *;generalize (aK s)[k].rune=R at *;generalize (aK s)[k].wide=N at *;generalize (aK s)[k].line=L at *;generalize (aK s)[k].ak=C at *;cases bi
    ·cases bc
     ·have HX:=Qh (je.o rfl);clear je lR;go_wp2_with fail;refine aI (cc _) ?_
      rintro e w2 ⟨rfl,rfl⟩;go_wp2_with fail;go_roundw;case rel=>exact⟨k+1,dV,ae,HX.o,Dd⟩
      case measure=>exact nC
     ·cases bb
      ·have HX:=Qh (lR.o rfl);clear je lR;go_wp2_with fail;refine aI (cc _) ?_
       rintro e w2 ⟨rfl,rfl⟩;go_wp2_with fail;refine aI (cb _) ?_
       rintro e w2 ⟨rfl,rfl⟩;go_wp2_with fail;go_still_tail 6,aj
       change wpList _ _ _ _ _ w2.drew;exact aa8
      ·have HX:=Qh (je.o rfl);clear je lR;go_wp2_with fail;refine aI (cc _) ?_
       rintro e w2 ⟨rfl,rfl⟩;go_wp2_with fail;refine aI (cb _) ?_
       rintro e w2 ⟨rfl,rfl⟩;go_wp2_with fail;go_roundw;case rel=>exact⟨k+1,dV,ae,HX.o,Dd⟩
       case measure=>exact nC
    ·have HX:=Qh (lR.o rfl);clear je lR;go_wp2_with fail;go_still_tail 6,aj
     change wpList _ _ _ _ _ (World.drew _);exact aa8
   ·have HX:=Qh (show V=.tuple #[.int .i64 0,.agg #[.int .i64 0,.int .i64 0]]by
     have h2:=HV.o;rw[show tG s=none from ady (fun j hj=>hno j hj ae)]at h2;exact h2)
    clear hno HV;go_wp2_with fail;exact bB (v:=.tuple #[.int .i64 0,.agg #[.int .i64 0,.int .i64 0]]) (by simp[results,results101,go_sem,r0,r1]) rfl ⟨by rw[HX.o],by first|exact bX.o|exact(bX.o.setCell (p:=⟨w.heap.size,0,none⟩) af _).setCell (p:=⟨w.heap.size,1,none⟩) af _⟩
theorem ain {α:Type} (p q:α→Bool):∀ l:List α,(l.any p || l.any q)=l.any fun x=>p x || q x
 | []=>rfl
 | a::l=>by
  rw[List.any_cons,List.any_cons,List.any_cons,← ain p q l];cases p a<;>cases q a<;>cases l.any p<;>cases l.any q<;>rfl
theorem asK (s:List UInt8) (hs:s.length≤9223372036854775807) (w:World) :
  Calls prog 178 #[.string ⟨s.toArray⟩] w fun e w'=>e=.returned (.int .i64 (lK s:Nat))∧Below w.heap.size w w':=by
 obtain⟨V,hV⟩:∃ V,V=lK s:=⟨_,rfl⟩
 rw[← hV];unfold lK at hV;by_cases I8:(1024:Int) < s.length
 ·rw[if_pos ae]at hV;have HN:=Qh hV;clear hV;go_enter func178,ntmps178
  go_wp2_with fail;go_ret;exact⟨by rw[HN.o]<;>rfl,aC _ _⟩
 ·rw[if_neg ae,ain]at hV;have cU:=fun w=>aav s ae w
  have HV:=Qh hV;have TI:=aaD s;have ata:(aK s).length≤1024:=ae;clear hV hs TI;go_enter func178,ntmps178
  go_wp2_with fail;refine aI (cU _) ?_
  rintro e w1 ⟨a,c,rfl,ho,hb⟩;have bX:=Qh hb;have HS:=Qh ho.sl.2;clear hb ho cU I8;go_wp2_with fail;go_loopw [4] (fun x wr=>∃ k:Nat,x=.int .i64 (k:Nat)∧k≤(aK s).length∧(∀ j,(h:j < (aK s).length)→j < k→(gF (aK s)[j].rune (aK s)[j].wide || mj (aK s)[j].rune)=false)∧wr=w1) (fun x _=>(aK s).length - (intOf x).toNat)
  case atStart=>exact⟨0,rfl,bV _,fun j _ h=>absurd h (Nat.not_lt_zero _),rfl⟩
  case round=>
   obtain⟨k,rfl,hk,hno,rfl⟩:=hrel;by_cases hlt:(k:Int) < (aK s).length
   ·have a8:k < (aK s).length:=ae;obtain⟨b,o,rfl,BX,e0,e1,e2,e3,e4⟩:=Tx HS.o a8;have je:=Qh (show(gF (aK s)[k].rune (aK s)[k].wide || mj (aK s)[k].rune)=false→∀ j,(h:j < (aK s).length)→j < k+1→(gF (aK s)[j].rune (aK s)[j].wide || mj (aK s)[j].rune)=false from fun hb j h h2=>by
     by_cases hj:j < k
     ·exact hno j h hj
     ·obtain rfl:j=k:=by omega
      exact hb)
    have lR:=Qh (show(gF (aK s)[k].rune (aK s)[k].wide || mj (aK s)[k].rune)=true→V=6 from fun hb=>by
     have h2:=HV.o;rw[if_pos (List.any_eq_true.2 ⟨(aK s)[k],gU _,hb⟩)]at h2;exact h2)
    have cc:=fun w=>ah0 (aK s)[k].rune w
    clear hno HV;generalize gF (aK s)[k].rune (aK s)[k].wide=bi at *;generalize mj (aK s)[k].rune=bc at *;generalize (aK s)[k].rune=R at *;cases bi
    ·cases bc
     ·have HX:=Qh (je.o rfl);clear je lR;go_wp2_with fail;refine aI (cc _) ?_
      rintro e w2 ⟨rfl,rfl⟩;go_wp2_with fail;go_roundw;case rel=>exact⟨k+1,dV,ae,HX.o,Dd⟩
      case measure=>exact nC
     ·have HX:=Qh (lR.o rfl);clear je lR;go_wp2_with fail;refine aI (cc _) ?_
      rintro e w2 ⟨rfl,rfl⟩;exact UP
    ·have HX:=Qh (lR.o rfl);clear je lR;exact UP
   ·have HX:=Qh (show V=0 by
     have h2:=HV.o;rw[if_neg]at h2
     ·exact h2
     ·intro h;obtain⟨u,hu,h3⟩:=List.any_eq_true.1 h;obtain⟨j,hj,rfl⟩:=List.getElem_of_mem hu;rw[hno j hj ae]at h3;cases h3)
    clear hno HV;exact UP
theorem asI (c:UInt8) (k:Nat) (hk:k < 256):((c.toNat:Int) == (k:Int))=(c == UInt8.ofNat k):=by
 rw[Fy,dZ,dZ];constructor
 ·intro h;exact UInt8.toNat.inj (by rw[Fm zo];omega)
 ·intro h;rw[h,Fm zo]
theorem aaw {c:UInt8} {k:Nat} (hk:k < 256) (h:c≠UInt8.ofNat k):((c.toNat:Int) == (k:Int))=false:=by
 rw[asI c k hk];simpa using h
theorem aax {c:UInt8} {k:Nat} (hk:k < 256) (h:c≠UInt8.ofNat k):((c.toNat:Int) != (k:Int))=true:=by
 rw[bne,aaw hk h];rfl
theorem ah4 {P:Program} {src dst e:TypeId} (hs:P.underlying src=some (.slice e)) (he:P.underlying e=some (.int .u8)) (hd:P.underlying dst=some .string)
  {w:World} {base:Nat} {v:Value} {l:List UInt8} (h:aG w base e 1 Mg v l):(convert src dst v).run P w=.ok (.string ⟨l.toArray⟩) w:=by
 rcases h.2 with ⟨hv,h0⟩|⟨g,cap,cur,hv,_⟩
 ·have:l=[]:=pS.1 h0;subst this;rw[hv,run_convert_bytes_string w src dst e none 0 0 hs he hd];rfl
 ·rw[hv]at h ⊢;refine run_convert_bytes_back w src dst e ⟨g,0,none⟩ cap l hs he hd fun j hj=>?_
  obtain⟨b,o,e1,_,hc⟩:=bA.cell1 h.sl.2 (fun x:UInt8=>.int .u8 (x.toNat:Int)) (fun _=>rfl) hj;cases e1
  rw[Addr.add_lit];exact hc
def CN:Mn→Value
 | .bad n=>.tuple #[.string ⟨#[]⟩,.int .i64 (n:Nat)]
 | .good l=>.tuple #[.string ⟨l.toArray⟩,.int .i64 0]
theorem asJ (s:List UInt8) (hs:s.length≤1000000000) (w:World) :
  Calls prog 155 #[.string ⟨s.toArray⟩] w fun e w'=>e=.returned (CN (uN s))∧Below w.heap.size w w':=by
 obtain⟨V,hV⟩:∃ V,V=CN (uN s):=⟨_,rfl⟩
 rw[← hV];have HV:=Qh hV;clear hV;by_cases h2:(s.length:Int) < 2
 ·have HN:=Qh (show V=.tuple #[.string ⟨#[]⟩,.int .i64 2]by
   rw[HV.o];rcases s with _|⟨a,_|⟨b,t⟩⟩
   ·rfl
   ·rfl
   ·simp at h2;omega)
  clear HV;go_enter func155,ntmps155
  exact O0
 have h0:0 < s.length:=ae;have fZ:(⟨s.toArray⟩:ByteArray)[0]'h0=s[0]:=rfl;by_cases hq:s[0]=34;case neg=>
  have HN:=Qh (show V=.tuple #[.string ⟨#[]⟩,.int .i64 4]by
   rw[HV.o];rcases s with _|⟨a,_|⟨b,t⟩⟩
   ·simp at h0
   ·simp at h2
   ·show CN (if a=34 then _ else _)=_;rw[if_neg (show ¬ a=34 from hq)];rfl)
  have zU:((s[0].toNat:Int) != 34)=true:=aax (k:=34) ah hq;generalize s[0]=c at *;clear HV hq;go_enter func155,ntmps155
  exact O0
 case pos=>
  have hst:V=CN (DL (oD [] (s.drop 1))):=by
   rw[HV.o];rcases s with _|⟨a,_|⟨b,t⟩⟩
   ·simp at h0
   ·simp at h2
   ·show CN (if a=34 then _ else _)=_;rw[if_pos (show a=34 from hq)];rfl
  have HS:=Qh hst;have zU:((s[0].toNat:Int) != 34)=false:=(by rw[hq];rfl);generalize s[0]=c0 at *;clear HV hq hst;go_enter func155,ntmps155
  go_wp2_with fail;go_loopw [4,5] (fun v x wr=>∃ (k:Nat) (acc:List UInt8),x=.int .i64 (k:Nat)∧1≤k∧k≤s.length∧acc.length≤k∧V=CN (DL (oD acc (s.drop k)))∧aG wr w.heap.size 5 1 Mg v acc∧Below w.heap.size w wr) (fun _ x _=>s.length - (intOf x).toNat)
  case atStart=>exact⟨1,[],rfl,af,ae,bV _,HS.o,aG.nil _ _ _ _ _,aC _ _⟩
  case round=>
   clear HS fZ zU;obtain⟨k,acc,rfl,nM,hk,adK,cY,hown,hb⟩:=hrel;obtain⟨av,cv,rfl,gW⟩:=hown.shape;by_cases hlt:(s.length:Int)≤(k:Int)
   ·have HN:=Qh (show V=.tuple #[.string ⟨#[]⟩,.int .i64 2]by
     rw[cY,rP ae,adF];rfl)
    clear cY;exact O6
   ·refine OI ?_;intro a8 fZ hd;rw[hd]at cY;by_cases gy:s[k]=34
    ·have g:((s[k].toNat:Int) == 34)=true:=(by rw[gy];rfl);rw[gy,adG]at cY;have qB:=Qh cY;generalize s[k]=c at *;clear hd gy cY;by_cases I8:(k:Int)+1 < s.length
     ·have HN:=Qh (show V=.tuple #[.string ⟨#[]⟩,.int .i64 3]by
       rw[qB.o];show CN (if s.drop (k+1)=[] then _ else _)=_;rw[if_neg Pv];rfl)
      clear qB;exact O6
     ·have HN:=Qh (show V=CN (xQ acc)by
       rw[qB.o];show CN (if s.drop (k+1)=[] then _ else _)=_;rw[if_pos (rP ae)])
      have ah5:=ah4 (P:=prog) underlying199 underlying5 underlying9 hown;have cm:=asK acc ae wr;have HB:=Qh hb;have HO:=Qh hown;clear qB hb hown;go_wp2_with fail;refine aQ cm ?_;intro w1 hb1;have hown1:=HO.o.keep hb1 af;have avX:=ah4 (P:=prog) underlying199 underlying5 underlying9 hown1;have bX:=Qh (aH HB.o hb1 af);clear hb1 hown1 ah5 cm HO;by_cases hm:lK acc=0
      ·have HM:=Qh (show V=.tuple #[.string ⟨acc.toArray⟩,.int .i64 0]by rw[HN.o];unfold xQ;rw[if_pos hm];rfl);rw[hm];clear hm HN;go_wp2_with fail;go_ret2
       exact⟨by rw[HM.o]<;>rfl,bX.o⟩
      ·have HM:=Qh (show V=.tuple #[.string ⟨#[]⟩,.int .i64 (lK acc:Nat)]by rw[HN.o];unfold xQ;rw[if_neg hm];rfl);have Kh:((lK acc:Int) != 0)=true:=vH;generalize lK acc=m at *;clear hm HN;go_wp2_with fail;go_ret2
       exact⟨by rw[HM.o]<;>rfl,bX.o⟩
    ·have g:((s[k].toNat:Int) == 34)=false:=aaw (k:=34) ah gy;by_cases lL:s[k]=92
     ·have g2:((s[k].toNat:Int) == 92)=true:=(by rw[lL];rfl);rw[lL]at cY;by_cases hlt2:(s.length:Int)≤(k:Int)+1
      ·have HN:=Qh (show V=.tuple #[.string ⟨#[]⟩,.int .i64 4]by
        rw[cY,rP ae,adI];rfl)
       generalize s[k]=c at *;clear hd gy lL cY;exact O6
      ·have hlt3:k+1 < s.length:=ae;have DM:(⟨s.toArray⟩:ByteArray)[k+1]'hlt3=s[k+1]:=rfl;have p6:=jq hlt3;rw[p6,adJ]at cY;generalize s[k]=c at *;generalize s[k+1]=d at *;clear hd p6 gy lL;by_cases hdd:d=34∨d=92
       ·rw[if_pos hdd]at cY;have qB:=Qh cY;have gd:((d.toNat:Int) != 34)=false∨(((d.toNat:Int) != 34)=true∧((d.toNat:Int) != 92)=false):=by
         rcases hdd with h|h
         ·left;rw[h];rfl
         ·right;rw[h];exact lz
        clear hdd cY;rcases gd with g3|⟨g3,g4⟩
        all_goals
         go_wp2_with (at_builtin;go_loud (refine BK adl acc d hown hb af ae ?_ (hone:=by simp[Mg,Value.oneCell'])))
         intro v' w1 hown1 hb1;clear hown hb gW;go_wp2
         go_roundw;case rel=>exact⟨k+1+1,acc++[d],dV,ae,ae,xh,qB.o,hown1,hb1⟩
         case measure=>exact nC
       ·rw[if_neg hdd]at cY;have HN:=Qh (show V=.tuple #[.string ⟨#[]⟩,.int .i64 4]from cY);have g3:((d.toNat:Int) != 34)=true:=aax (k:=34) ah (fun h=>hdd (.inl h));have g4:((d.toNat:Int) != 92)=true:=aax (k:=92) ah (fun h=>hdd (.inr h));clear hdd cY;exact O6
     ·have g2:((s[k].toNat:Int) == 92)=false:=aaw (k:=92) ah lL;rw[adH gy lL]at cY;have qB:=Qh cY;generalize s[k]=c at *;clear hd gy lL cY;go_wp2_with (at_builtin;go_loud (refine BK adl acc c hown hb af ae ?_ (hone:=by simp[Mg,Value.oneCell'])))
      intro v' w1 hown1 hb1;clear hown hb gW;go_wp2
      go_roundw;case rel=>exact⟨k+1,acc++[c],dV,ae,ae,xh,qB.o,hown1,hb1⟩
      case measure=>exact nC
def aie (i:Nat):Ch→Value
 | .bad e=>.tuple #[qj 0 [] (0,0),.int .i64 0,.int .i64 (e:Nat)]
 | .good k t n=>.tuple #[qj k t (0,0),.int .i64 ((i+n:Nat):Int),.int .i64 0]
theorem asW {s:List UInt8} {n:Nat} (h:uN s=.bad n):1≤n∧n≤6:=by
 have fin:∀ b m,xQ b=.bad m→1≤m∧m≤6:=fun b m h=>by
  unfold xQ at h;split at h
  ·cases h
  ·rename_i h2
   cases h
   refine⟨ae,?_⟩;unfold lK;split
   ·decide
   ·split<;>decide
 have en:∀ o m,DL o=.bad m→1≤m∧m≤6:=fun o m h=>by
  rcases o with _|⟨b,_|⟨x,r⟩⟩
  ·cases h;decide
  ·cases h;decide
  ·have h':(if r=[] then xQ b else .bad 3)=.bad m:=h;split at h'
   ·exact fin b m h'
   ·cases h';decide
 rcases s with _|⟨a,_|⟨b,t⟩⟩
 ·cases h;decide
 ·cases h;decide
 ·have h':(if a=34 then DL (oD [] (b::t)) else .bad 4)=.bad n:=h;split at h'
  ·exact en _ n h'
  ·cases h';decide
theorem Ox (L:List UInt8) (i n:Nat):(⟨L.toArray⟩:ByteArray).extract i (i+n)=⟨((L.drop i).take n).toArray⟩:=by
 exact abZ
theorem asX (s:List UInt8) (i:Nat) (c:UInt8) (t:List UInt8) (hd:s.drop i=c::t):jI c.toNat (s.drop i)=((c == 43 || c == 45) && eZ (bS s (i+1)).toNat):=by
 have e1:(c.toNat == 43)=(c == 43):=by
  exact ab6
 have e2:(c.toNat == 45)=(c == 45):=by
  exact ab6
 unfold jI bS;rw[e1,e2,zy];cases s[i+1]?<;>rfl
theorem asY (s:List UInt8) (i:Nat) (hs:s.length≤1000000000) (hi:i < s.length) (w:World) :
  Calls prog 104 #[.string ⟨s.toArray⟩,.int .i64 (i:Nat)] w fun e w'=>e=.returned (aie i (gG (s.drop i)))∧Below w.heap.size w w':=by
 have hd:=jq hi;have dM:=ME s[i] (s.drop (i+1));rw[← hd]at dM;have cV:=asX s i s[i] (s.drop (i+1)) hd;rw[cV]at dM;have aif:(eZ s[i].toNat || ((s[i] == 43 || s[i] == 45) && eZ (bS s (i+1)).toNat))=true→Hk s i=AO i (fg (s.drop i))∧tw (s.drop (i+dA (s.drop i)))≠[]:=fun h=>by
  rw[← cV,hd]at h;have h2:=YF s[i] (s.drop (i+1)) h;rw[← hd,lG]at h2;exact⟨asZ s i h2,h2⟩
 have fZ:(⟨s.toArray⟩:ByteArray)[i]'hi=s[i]:=rfl;have hsz:Ow s i=if oK s[i].toNat=true then i+1 else if jv (s.drop i)=true then i+3 else 0:=(by unfold Ow;rw[Tw hi]);have htx:s[i]=34→rz (s.drop i)=match eQ false 1 (s.drop (i+1))with
   | none=>.bad 6
   | some j=>match uN ((s.drop i).take (j+1))with
    | .bad n=>if n=5 then .bad 5 else .bad 6
    | .good t=>.good 3 t (j+1):=fun _=>by
  unfold rz;rw[lG];rfl
 have sM:(s.drop i).take 1=[s[i]]:=(by rw[hd];rfl);have yu:∀ j,eQ false 1 (s.drop (i+1))=some j→i+j+1≤s.length:=fun j h=>by
  have:=JE _ _ _ _ h;rw[e7]at this;omega
 have Oy:=TE (s.drop (i+1)) false i 1;have hol:jv (s.drop i)=true→i+3≤s.length:=fun h=>by have:=Xe h;rw[e7]at this;omega
 refine qW (Rm (s.drop i)) ?_;intro hnl;obtain⟨V,hV⟩:∃ V,V=aie i (gG (s.drop i)):=⟨_,rfl⟩
 rw[← hV];rw[dM]at hV;refine aY hV aif hsz ?_;intro HV KL gD;refine aY htx sM yu ?_;intro KM yC KN;refine aY Oy hol hnl ?_;intro KO EN Oz;refine fQ hd ((aC w.heap.size w).alloc af (.cells #[.int .i64 0,.string ⟨#[]⟩,.int .i64 0,.int .i64 0] 129)) (ai.new w #[.int .i64 0,.string ⟨#[]⟩,.int .i64 0,.int .i64 0] 129) (fun w=>aas s[i].toNat w) ?_;intro HD dS uq cl
 have cd:=fun w=>Oq s[i].toNat w
 clear dM cV aif hsz htx sM yu Oy hol hnl hV hd;generalize s[i]=c at *;go_enter func104,ntmps104
 go_wp2_with fail;generalize w.alloc (.cells #[.int .i64 0,.string ⟨#[]⟩,.int .i64 0,.int .i64 0] 129)=W at *;obtain⟨⟨r0,r1,r2,r3⟩,f0,f1,f2,f3⟩:=uq.o.four;refine aI (cl _) ?_
 rintro e w1 ⟨rfl,rfl⟩;have hV:=HV.o;clear HV cl;cases hl:js c.toNat
 case true=>
  rw[hl,if_pos rfl]at hV;refine qW (Rl (s.drop i)) ?_;intro av0;have mF:l9 (s.drop i)=((s.drop i).takeWhile jt).length:=rfl;have hx:=Ox s i (l9 (s.drop i));have HX:=Qh hx;generalize l9 (s.drop i)=n at *;have uR:=Qh mF;generalize (s.drop i).take n=nm at *;have HN:=Qh (show V=.tuple #[.agg #[.int .i64 1,.string ⟨nm.toArray⟩,.int .i64 0,.int .i64 0],.int .i64 ((i+n:Nat):Int),.int .i64 0]from hV);clear hV hl KL gD KM yC KN KO EN Oz HD cd hx mF;go_wp2_with fail;go_loopw [8] (fun x wr=>∃ k:Nat,x=.int .i64 (k:Nat)∧i≤k∧k≤s.length∧i+n=k+((s.drop k).takeWhile jt).length∧wr=w1) (fun x _=>s.length - (intOf x).toNat)
  case atStart=>exact⟨i,rfl,af,ae,by rw[uR.o],rfl⟩
  case round=>
   clear fZ uR;obtain⟨k,rfl,hik,hk,tD,rfl⟩:=hrel;by_cases hlt:(k:Int) < s.length
   ·refine OI ?_;intro a8 fZ hd;rw[hd]at tD;generalize s[k]=ch at *;have cl:=fun w=>aas ch.toNat w
    have cd:=fun w=>Oq ch.toNat w
    cases hl:js ch.toNat
    ·rw[hl]at cl;cases hg:eZ ch.toNat
     ·rw[hg]at cd;have sB:jt ch=false:=(by unfold jt;rw[hl,hg];rfl);rw[sY,sB]at tD;obtain rfl:k=i+n:=by simpa using tD.symm
      have hx:=HX.o;clear tD hd hl hg sB HX;go_wp2_with fail;refine aI (cl _) ?_
      rintro e w2 ⟨rfl,rfl⟩;go_wp2_with fail;refine aI (cd _) ?_
      rintro e w2 ⟨rfl,rfl⟩;exact abc
     ·rw[hg]at cd;have sB:jt ch=true:=(by unfold jt;rw[hl,hg];rfl);rw[sY,sB]at tD;have HK:=Qh (show i+n=k+1+((s.drop (k+1)).takeWhile jt).length by rw[tD];simp;omega);clear tD hd hl hg sB HX;go_wp2_with fail;refine aI (cl _) ?_
      rintro e w2 ⟨rfl,rfl⟩;go_wp2_with fail;refine aI (cd _) ?_
      rintro e w2 ⟨rfl,rfl⟩;go_wp2_with fail;go_roundw;case rel=>exact⟨k+1,dV,ae,ae,HK.o,Dd⟩
      case measure=>exact nC
    ·rw[hl]at cl;have sB:jt ch=true:=(by unfold jt;rw[hl];rfl);rw[sY,sB]at tD;have HK:=Qh (show i+n=k+1+((s.drop (k+1)).takeWhile jt).length by rw[tD];simp;omega);clear tD hd hl sB HX;go_wp2_with fail;refine aI (cl _) ?_
     rintro e w2 ⟨rfl,rfl⟩;go_wp2_with fail;go_roundw;case rel=>exact⟨k+1,dV,ae,ae,HK.o,Dd⟩
     case measure=>exact nC
   ·obtain rfl:k=i+n:=by
     rw[rP ae]at tD;simpa using tD.symm
    have hx:=HX.o;clear tD HX;exact abc
 case false=>
  rw[hl,if_neg aB]at hV;clear hl;have cA:=fun w=>Tz s ((i:Int)+1) (i+1) ae hs w
  have cD:=fun w=>Oq (bS s (i+1)).toNat w
  have HV:=Qh hV;obtain⟨bn,cH⟩:∃ b,b=(eZ c.toNat || ((c == 43 || c == 45) && eZ (bS s (i+1)).toNat)):=⟨_,rfl⟩
  rw[← cH]at HV KL;have si:=Qh cH;clear cH hV;generalize bS s (i+1)=c1 at *;go_upto_region 7 with fail
  go_cut [61] (fun x ws=>x=.bool bn∧ws=w1)
  case first=>
   clear HV KL gD KM yC KN KO EN Oz HD;cases hg:eZ c.toNat
   ·rw[hg]at cd;by_cases e1:c=43
    ·have g1:=mL (k:=43) ah e1;have HB:=Qh (show bn=eZ c1.toNat by rw[si.o,hg,e1];rfl);generalize eZ c1.toNat=b1 at *;clear si hg e1;go_wp2_with fail;refine aI (cd _) ?_
     rintro e w2 ⟨rfl,rfl⟩;go_wp2_with fail;refine aI (cA _) ?_
     rintro e w2 ⟨rfl,rfl⟩;go_wp2_with fail;refine aI (cD _) ?_
     rintro e w2 ⟨rfl,rfl⟩;go_wp2_with fail;go_meet
     case rel=>exact ur
    ·have g1:=kR (k:=43) ah e1;by_cases e2:c=45
     ·have g2:=mL (k:=45) ah e2;have HB:=Qh (show bn=eZ c1.toNat by rw[si.o,hg,e2];rfl);generalize eZ c1.toNat=b1 at *;clear si hg e1 e2;go_wp2_with fail;refine aI (cd _) ?_
      rintro e w2 ⟨rfl,rfl⟩;go_wp2_with fail;refine aI (cA _) ?_
      rintro e w2 ⟨rfl,rfl⟩;go_wp2_with fail;refine aI (cD _) ?_
      rintro e w2 ⟨rfl,rfl⟩;go_wp2_with fail;go_meet
      case rel=>exact ur
     ·have g2:=kR (k:=45) ah e2;have HB:=Qh (show bn=false by rw[si.o,hg];simp[e1,e2]);clear si hg e1 e2 cA cD;go_wp2_with fail;refine aI (cd _) ?_
      rintro e w2 ⟨rfl,rfl⟩;go_wp2_with fail;go_meet
      case rel=>exact ur
   ·rw[hg]at cd;have HB:=Qh (show bn=true by rw[si.o,hg];rfl);clear si hg cA cD;go_wp2_with fail;refine aI (cd _) ?_
    rintro e w2 ⟨rfl,rfl⟩;go_wp2_with fail;go_meet
    case rel=>exact ur
  case rest=>
  obtain⟨rfl,rfl⟩:=hcut;refine xf ?_;intro w1 hw
  subst hw;clear cA cD cd si;have hV:=HV.o;clear HV;cases bn
  case true=>
   rw[if_pos rfl]at hV;obtain⟨q1,q2⟩:=KL.o rfl;have cN:=fun w=>asM s i hs hi q2 w
   rw[q1]at cN;have hx:=Ox s i (fg (s.drop i));have hnl:=Oz.o;clear q1 q2 KL gD KM yC KN KO EN Oz HD;generalize zS:fg (s.drop i)=n at *;generalize (s.drop i).take n=nm at *;clear zS;go_wp2_with fail;refine aI (cN _) ?_
   rintro e w2 ⟨K,b,rfl,rfl,hb1,hb2⟩;clear cN;cases b
   ·have h0:=hb2 rfl;have mF:n=0:=(by unfold AO at h0;split at h0<;>omega);rw[if_pos mF]at hV;have HN:=Qh (show V=.tuple #[.agg #[.int .i64 0,.string ⟨#[]⟩,.int .i64 0,.int .i64 0],.int .i64 0,.int .i64 8]from hV);clear hV hb1 hb2 h0 mF hx;go_wp2_with fail;exact bB (v:=.tuple #[.agg #[.int .i64 0,.string ⟨#[]⟩,.int .i64 0,.int .i64 0],.int .i64 0,.int .i64 8]) Bc rfl ⟨fV,gp dS.o af _ _ _ _⟩
   ·obtain⟨rfl,h0⟩:=hb1 rfl;have mF:n≠0:=fun h=>h0 (by unfold AO;rw[if_pos h])
    rw[if_neg mF]at hV;have HN:=Qh (show V=.tuple #[.agg #[.int .i64 2,.string ⟨nm.toArray⟩,.int .i64 0,.int .i64 0],.int .i64 ((i+n:Nat):Int),.int .i64 0]from hV);have uM:AO i n=i+n:=(by unfold AO;rw[if_neg mF]);rw[uM];clear hV hb1 hb2 h0 mF uM;go_wp2_with fail;exact bB (v:=.tuple #[.agg #[.int .i64 2,.string ⟨nm.toArray⟩,.int .i64 0,.int .i64 0],.int .i64 ((i+n:Nat):Int),.int .i64 0]) Bc rfl ⟨fV,gp dS.o af _ _ _ _⟩
  case false=>
   rw[if_neg aB]at hV;clear KL Oz;by_cases e1:c=34
   ·rw[if_pos e1,KM.o e1]at hV;have g1:=mL (k:=34) ah e1;have cQ:=fun w=>asQ s i hs hi w
    rw[show i+1=i+1 from rfl]at cQ;have Oy:=KO.o;rw[Oy]at cQ;have yu:=KN.o;clear KM gD yC KN KO EN HD e1 Oy;cases hq:eQ false 1 (s.drop (i+1))with
    | none=>
     rw[hq]at cQ hV;have OA:∀ w,Calls prog 154 #[.string ⟨s.toArray⟩,.int .i64 (i:Nat)] w fun e w'=>e=.returned (.int .i64 0)∧w' = w:=cQ
     have HN:=Qh (show V=.tuple #[.agg #[.int .i64 0,.string ⟨#[]⟩,.int .i64 0,.int .i64 0],.int .i64 0,.int .i64 6]from hV);clear hq hV cQ yu;go_wp2_with fail;refine aI (OA _) ?_
     rintro e w2 ⟨rfl,rfl⟩;go_wp2_with fail;exact bB (v:=.tuple #[.agg #[.int .i64 0,.string ⟨#[]⟩,.int .i64 0,.int .i64 0],.int .i64 0,.int .i64 6]) Bc rfl ⟨fV,gp dS.o af _ _ _ _⟩
    | some j=>
     rw[hq]at cQ hV;have yl:=yu j hq;simp only at hV;have OA:∀ w,Calls prog 154 #[.string ⟨s.toArray⟩,.int .i64 (i:Nat)] w fun e w'=>e=.returned (.int .i64 ((i+(j+1):Nat):Int))∧w' = w:=cQ
     have hx:=Ox s i (j+1);have hlL:((s.drop i).take (j+1)).length≤1000000000:=(by rw[uC,e7];omega);have cU:=fun w=>asJ ((s.drop i).take (j+1)) hlL w
     have gk:((((i+(j+1):Nat):Int)) == 0)=false:=ft;have hkb:i+(j+1)≤s.length:=ae;generalize (s.drop i).take (j+1)=L at *;have hik:(i:Int)≤((i+(j+1):Nat):Int):=ae;generalize ij:i+(j+1)=k at *;clear hq cQ yu hlL;cases hu:uN L with
     | bad m=>
      obtain⟨m1,m2⟩:=asW hu;rw[hu]at cU hV;have TF:∀ w,Calls prog 155 #[.string ⟨L.toArray⟩] w fun e w'=>e=.returned (.tuple #[.string ⟨#[]⟩,.int .i64 (m:Nat)])∧Below w.heap.size w w':=cU
      simp only at hV;by_cases h5:m=5
      ·rw[if_pos h5]at hV;subst h5;have HN:=Qh (show V=.tuple #[.agg #[.int .i64 0,.string ⟨#[]⟩,.int .i64 0,.int .i64 0],.int .i64 0,.int .i64 5]from hV);clear hV cU hu;go_wp2_with fail;refine aI (OA _) ?_
       rintro e w2 ⟨rfl,rfl⟩;go_wp2_with fail;clear r0 r1 r2 r3 f0 f1 f2 f3;refine Hz (TF _) ?_;intro w2 aM hk2 r0 r1 r2 r3 f0 f1 f2 f3
       go_wp2_with fail;exact bB (v:=.tuple #[.agg #[.int .i64 0,.string ⟨#[]⟩,.int .i64 0,.int .i64 0],.int .i64 0,.int .i64 5]) Bc rfl ⟨fV,gp aM.o af _ _ _ _⟩
      ·rw[if_neg h5]at hV;have HN:=Qh (show V=.tuple #[.agg #[.int .i64 0,.string ⟨#[]⟩,.int .i64 0,.int .i64 0],.int .i64 0,.int .i64 6]from hV);have gm:((m:Int) == 5)=false:=ft;have gm2:((m:Int) != 0)=true:=vH;clear hV cU hu h5;go_wp2_with fail;refine aI (OA _) ?_
       rintro e w2 ⟨rfl,rfl⟩;go_wp2_with fail;clear r0 r1 r2 r3 f0 f1 f2 f3;refine Hz (TF _) ?_;intro w2 aM hk2 r0 r1 r2 r3 f0 f1 f2 f3
       go_wp2_with fail;exact bB (v:=.tuple #[.agg #[.int .i64 0,.string ⟨#[]⟩,.int .i64 0,.int .i64 0],.int .i64 0,.int .i64 6]) Bc rfl ⟨fV,gp aM.o af _ _ _ _⟩
     | good tx=>
      rw[hu]at cU hV;have TF:∀ w,Calls prog 155 #[.string ⟨L.toArray⟩] w fun e w'=>e=.returned (.tuple #[.string ⟨tx.toArray⟩,.int .i64 0])∧Below w.heap.size w w':=cU
      have HN:=Qh (show V=.tuple #[.agg #[.int .i64 3,.string ⟨tx.toArray⟩,.int .i64 0,.int .i64 0],.int .i64 (k:Nat),.int .i64 0]by rw[hV,← ij];rfl);clear hV cU hu;go_wp2_with fail;refine aI (OA _) ?_
      rintro e w2 ⟨rfl,rfl⟩;go_wp2_with fail;clear r0 r1 r2 r3 f0 f1 f2 f3;refine Hz (TF _) ?_;intro w2 aM hk2 r0 r1 r2 r3 f0 f1 f2 f3
      go_wp2_with fail;exact bB (v:=.tuple #[.agg #[.int .i64 3,.string ⟨tx.toArray⟩,.int .i64 0,.int .i64 0],.int .i64 (k:Nat),.int .i64 0]) Bc rfl ⟨fV,gp aM.o af _ _ _ _⟩
   ·rw[if_neg e1]at hV;have g1:=kR (k:=34) ah e1;have cS:=fun w=>asV s i hs hi w
    rw[gD.o]at cS;clear KM KN KO e1 gD;by_cases hsu:oK c.toNat=true
    ·rw[if_pos hsu]at hV;simp only[if_pos hsu]at cS;have hx:=Ox s i 1;rw[yC.o]at hx;have gk:((((i+1:Nat):Int)) == 0)=false:=ft;have HN:=Qh (show V=.tuple #[.agg #[.int .i64 4,.string ⟨[c].toArray⟩,.int .i64 0,.int .i64 0],.int .i64 ((i+1:Nat):Int),.int .i64 0]from hV);clear hV hsu yC EN HD;go_wp2_with fail;clear r0 r1 r2 r3 f0 f1 f2 f3;refine Hz (cS _) ?_;intro w2 aM hk2 r0 r1 r2 r3 f0 f1 f2 f3
     go_wp2_with fail;exact bB (v:=.tuple #[.agg #[.int .i64 4,.string ⟨[c].toArray⟩,.int .i64 0,.int .i64 0],.int .i64 ((i+1:Nat):Int),.int .i64 0]) Bc rfl ⟨fV,gp aM.o af _ _ _ _⟩
    ·rw[if_neg hsu]at hV;simp only[if_neg hsu]at cS;by_cases ho:jv (s.drop i)=true
     ·rw[if_pos ho]at hV;simp only[if_pos ho]at cS;have hx:=Ox s i 3;have hkb:=EN.o ho;generalize (s.drop i).take 3=L at *;have gk:((((i+3:Nat):Int)) == 0)=false:=ft;have HN:=Qh (show V=.tuple #[.agg #[.int .i64 4,.string ⟨L.toArray⟩,.int .i64 0,.int .i64 0],.int .i64 ((i+3:Nat):Int),.int .i64 0]from hV);clear hV hsu yC EN HD ho;go_wp2_with fail;clear r0 r1 r2 r3 f0 f1 f2 f3;refine Hz (cS _) ?_;intro w2 aM hk2 r0 r1 r2 r3 f0 f1 f2 f3
      go_wp2_with fail;exact bB (v:=.tuple #[.agg #[.int .i64 4,.string ⟨L.toArray⟩,.int .i64 0,.int .i64 0],.int .i64 ((i+3:Nat):Int),.int .i64 0]) Bc rfl ⟨fV,gp aM.o af _ _ _ _⟩
     ·rw[if_neg ho]at hV;simp only[if_neg ho]at cS;have cS2:∀ w:World,Calls prog 156 #[.string ⟨s.toArray⟩,.int .i64 (i:Nat)] w fun e w'=>e=.returned (.int .i64 0)∧Below w.heap.size w w':=cS
      have HN:=Qh (show V=.tuple #[.agg #[.int .i64 0,.string ⟨#[]⟩,.int .i64 0,.int .i64 0],.int .i64 0,.int .i64 7]from hV);clear hV hsu yC EN HD ho cS;go_wp2_with fail;clear r0 r1 r2 r3 f0 f1 f2 f3;refine Hz (cS2 _) ?_;intro w2 aM hk2 r0 r1 r2 r3 f0 f1 f2 f3
      go_wp2_with fail;exact bB (v:=.tuple #[.agg #[.int .i64 0,.string ⟨#[]⟩,.int .i64 0,.int .i64 0],.int .i64 0,.int .i64 7]) Bc rfl ⟨fV,gp aM.o af _ _ _ _⟩
end Go.Proofs.YtfflljgnpfldfaaGreatDoor
