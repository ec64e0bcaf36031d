/-
  lex.token: contract.
-/
import Derived.Test.YtfflljgnpfldfaaGreatDoorLexD
set_option linter.all false
set_option maxHeartbeats 128000000
set_option maxRecDepth 100000
namespace Go.Proofs.YtfflljgnpfldfaaGreatDoor
open Go.Proofs.Tryz
open Go.RowKit Go.Shelf
def jt (c:UInt8):Bool:=js c.toNat || eZ c.toNat
def l9 (s:List UInt8):Nat:=(s.takeWhile jt).length
def jv (s:List UInt8):Bool:=s.take 3 == [64,48,43] || s.take 3 == [64,48,45] || s.take 3 == [64,49,43] || s.take 3 == [64,49,45]
def jI (R:Nat) (s:List UInt8):Bool:=(R == 43 || R == 45) && (match s[1]? with|some c=>eZ c.toNat|none=>false)
def JC (s:List UInt8):Value:=
 if js (ay s).1=true then iq 1 (s.take (l9 s)) (l9 s)
 else if (eZ (ay s).1 || jI (ay s).1 s)=true then (if fg s=0 then gI 8 else iq 2 (s.take (fg s)) (fg s))
 else if (ay s).1=34 then D8 s
 else if oK (ay s).1=true then iq 4 (s.take 1) 1
 else if jv s=true then iq 4 (s.take 3) 3 else gI 7
theorem Rl (s:List UInt8):l9 s≤s.length:=(List.takeWhile_sublist _).length_le
theorem Rm (s:List UInt8):fg s≤s.length:=by
 have h3:∀ n,n≤s.length→kM s n≤s.length:=by
  intro n hn;unfold kM;split
  ·split<;>omega
  ·omega
 have h2:∀ n,n≤s.length→kN s n≤s.length:=by
  intro n hn;unfold kN;split
  ·split
   ·split
    ·omega
    ·apply h3;have:=wA (s.drop (n+1+dA (s.drop (n+1))));obtain⟨a,b⟩:=D7 (s.drop (n+1));rw[e7]at this b
     rename_i c hc _ _
     have:n < s.length:=by
      rcases lI n s.length with h|h
      ·exact h
      ·rw[ML ae]at hc;cases hc
     omega
   ·exact h3 n hn
  ·exact h3 n hn
 unfold fg ni;have a:=D7 s;have b:=wA (s.drop (dA s));rw[e7]at b;split
 ·split
  ·split
   ·omega
   ·apply h2;have:=wA (s.drop (dA s+(tw (s.drop (dA s))).length+1));rw[e7]at this
    rename_i c hc _ _
    have:dA s+(tw (s.drop (dA s))).length < s.length:=by
     rcases lI (dA s+(tw (s.drop (dA s))).length) s.length with h|h
     ·exact h
     ·rw[ML ae]at hc;cases hc
    omega
  ·apply h2;omega
 ·apply h2;omega
theorem anp (l:List UInt8):(ay l).1 < 55296∨57344≤(ay l).1:=by
 obtain⟨c,k,e,h⟩:=WM l.length (l.getD 0 0).toNat (l.getD 1 0).toNat (l.getD 2 0).toNat (l.getD 3 0).toNat;have e2:ay l=(c,k):=e;rw[e2];rcases h with h|h|h|h|h<;>simp only<;>omega
theorem anq (s:List UInt8) (hs:s.length≤1000000000) (hne:s≠[]) (w:World) (hT:xP w) :
  Calls prog 81 #[.string ⟨s.toArray⟩,.int .i32 ((ay s).1:Nat)] w fun e w'=>e=.returned (JC s)∧Below w.heap.size w w':=by
 obtain⟨V,hV⟩:∃ V,V=JC s:=⟨_,rfl⟩
 rw[← hV];have bm:0 < s.length:=qs.2 hne;have cl:=MK (ay s).1;have kO:=Jt (ay s).1;have gl:=ano (ay s).1 (anp s) (adk s);have kS:=ane s hs;have aeL:(ay s).1 < 128→ay s=(s[0].toNat,1)∧s[0].toNat < 128:=by
  intro h;rcases s with _|⟨c,t⟩
  ·exact absurd rfl hne
  ·exact Jy c t h
 have gh:Below w.heap.size w (w.alloc (.cells #[.int .i64 0,.string ⟨#[]⟩,.int .i64 0,.int .i64 0] 129)):=(aC _ _).alloc af _;have Qu:=ai.new w #[.int .i64 0,.string ⟨#[]⟩,.int .i64 0,.int .i64 0] 129;have bE:=Qh gh;have df:=Qh Qu;have HT:=Qh hT;have HV:=Qh hV;have HH:=Qh aeL;have hx:=fun j=>aeJ s j
 have HX:=Qh hx;clear gh Qu hT hV aeL hx;cases hl:js (ay s).1
 case true=>
  rw[hl]at cl;obtain⟨N,hN⟩:∃ N,N=l9 s:=⟨_,rfl⟩
  have HN:=Qh (show V=iq 1 (s.take N) N by rw[HV.o];unfold JC;rw[if_pos hl,hN]);have Gi:=Qh hN;have hNl:N≤s.length:=(by rw[hN];exact Rl s);have Rn:=HX.o N;clear HV HX HH hl hN kO gl kS hne;go_enter func81,ntmps81
  go_wp2_with fail;with_reducible refine(cl _).mono ?_
  rintro e w1 ⟨rfl,rfl⟩;generalize w.alloc (.cells #[.int .i64 0,.string ⟨#[]⟩,.int .i64 0,.int .i64 0] 129)=W at *;obtain⟨⟨r0,r1,r2,r3⟩,f0,f1,f2,f3⟩:=df.o.four;clear cl;have hb0:Below W.heap.size W (W.iter ⟨s.toArray⟩ 0):=(aC _ _).alloc af _;have oz:=Dl W ⟨s.toArray⟩ 0;have zT:ai (W.iter ⟨s.toArray⟩ 0) w.heap.size _:=df.o.keep hb0 af;have dS:=Qh (aH bE.o hb0 af);have hWs:=bE.o.size;clear hb0 r0 r1 r2 r3 f0 f1 f2 f3 df;have hHW:w.heap.size < W.heap.size:=by
   have:=zT.lt;have h2:(W.iter ⟨s.toArray⟩ 0).heap.size=W.heap.size+1:=jW _ _;rcases lI w.heap.size W.heap.size with h|h
   ·exact h
   ·exfalso;have e:w.heap.size=W.heap.size:=ae;obtain⟨T,hT⟩:=zT;rw[e,oz]at hT;cases hT
  go_wp2_with fail;generalize W.iter ⟨s.toArray⟩ 0=V0 at *;go_loopw [7] (fun v wr=>∃ k:Nat,k≤s.length∧v=.int .i64 (s.length:Nat)∧N=k+((s.drop k).takeWhile jt).length∧wr.heap[W.heap.size]? = some (.stringIter ⟨s.toArray⟩ k)∧ai wr w.heap.size #[.int .i64 0,.string ⟨#[]⟩,.int .i64 0,.int .i64 0]∧Below w.heap.size w wr) (fun v wr=>s.length - wr.iterPos W.heap.size)
  case atStart=>exact⟨0,bV _,rfl,by rw[Gi.o];simp[l9],oz,zT,dS.o⟩
  case round=>
   clear oz zT dS Gi;obtain⟨k,hk,rfl,Cf,hit,bO,bh⟩:=hrel;have HM:=Qh (rU hit:wr.iterPos W.heap.size=k);by_cases hlt:k < s.length
   ·have hd:=jq hlt;rw[hd]at Cf;have JD:=MK (ay (s[k]::s.drop (k+1))).1;have oL:=Jt (ay (s[k]::s.drop (k+1))).1;have oC:=Dm wr W.heap.size ⟨s.toArray⟩ k (k+(ay (s[k]::s.drop (k+1))).2) hit;have pY:=BB bh (k:=W.heap.size) hWs ⟨s.toArray⟩ (k+(ay (s[k]::s.drop (k+1))).2);have rq:ai (wr.iterAt W.heap.size ⟨s.toArray⟩ (k+(ay (s[k]::s.drop (k+1))).2)) w.heap.size _:=bO.same (Fw _ _ _ _ _ ae);have z6:(js (ay (s[k]::s.drop (k+1))).1 || eZ (ay (s[k]::s.drop (k+1))).1)=true→jt s[k]=true∧(ay (s[k]::s.drop (k+1))).2=1:=by
     intro h;have h2:(ay (s[k]::s.drop (k+1))).1 < 128:=by
      rw[nJ]at h;rcases h with h|h
      ·exact Rj h
      ·exact Ge h
     obtain⟨e,_⟩:=Jy _ _ h2;rw[e]at h ⊢;exact⟨h,rfl⟩
    have MP:(js (ay (s[k]::s.drop (k+1))).1 || eZ (ay (s[k]::s.drop (k+1))).1)=false→jt s[k]=false:=by
     intro h;rw[rS];intro h2;have h3:s[k].toNat < 128:=by
      unfold jt at h2;rw[nJ]at h2;rcases h2 with h2|h2
      ·exact Rj h2
      ·exact Ge h2
     rw[Jv _ _ h3]at h;unfold jt at h2;rw[h2]at h;cases h
    have fR:k < (⟨s.toArray⟩:ByteArray).size:=hlt;have dW:∀ ty,(Instr.next (.pointer (some ⟨W.heap.size,0,none⟩)) true ty).run prog wr=_:=fun ty=>Lib.run_next_any_at wr W.heap.size ⟨s.toArray⟩ k ty hit fR
    rw[Ba,hd]at dW;generalize ay (s[k]::s.drop (k+1))=dd at *;obtain⟨R2,N2⟩:=dd;simp only at dW JD oL oC pY rq z6 MP;clear fR hit bO bh hd;cases hl2:js R2
    ·rw[hl2]at JD;cases p6:eZ R2
     ·have sB:=MP (by rw[hl2,p6];rfl);rw[p6]at oL;have MQ:=Qh (show N=k by rw[Cf,sY,sB];rfl);obtain⟨⟨r0,r1,r2,r3⟩,f0,f1,f2,f3⟩:=rq.four;have aM:=Qh pY;clear Cf z6 MP sB hl2 p6 rq pY oC HM;generalize wr.iterAt W.heap.size ⟨s.toArray⟩ (k+N2)=wv at *;have hkN:=MQ.o;subst hkN;go_wp2_with fail;with_reducible refine(JD _).mono ?_
      rintro e w3 ⟨rfl,rfl⟩;go_wp2_with fail;with_reducible refine(oL _).mono ?_
      rintro e w4 ⟨rfl,rfl⟩;go_wp2_with fail;exact bB (v:=iq 1 (s.take N) N) zn rfl ⟨fV,gp aM.o af _ _ _ _⟩
     ·have sB:=z6 (by rw[hl2,p6];rfl);rw[p6]at oL;obtain⟨MR,rfl⟩:=sB;have MQ:=Qh (show N=k+1+((s.drop (k+1)).takeWhile jt).length by rw[Cf,sY,MR];simp only[kG,dz];omega);have om:=Qh oC;have MO:=Qh rq;have aM:=Qh pY;clear Cf z6 MP MR hl2 p6 rq pY oC;generalize wr.iterAt W.heap.size ⟨s.toArray⟩ (k+1)=wv at *;go_wp2_with fail;with_reducible refine(JD _).mono ?_
      rintro e w3 ⟨rfl,rfl⟩;go_wp2_with fail;with_reducible refine(oL _).mono ?_
      rintro e w4 ⟨rfl,rfl⟩;go_wp2_with fail;go_roundw;case rel=>exact⟨k+1,ae,rfl,MQ.o,om.o,MO.o,aM.o⟩
      case measure=>rw[rU om.o,HM.o];omega
    ·have sB:=z6 (by rw[hl2];rfl);rw[hl2]at JD;obtain⟨MR,rfl⟩:=sB;have MQ:=Qh (show N=k+1+((s.drop (k+1)).takeWhile jt).length by rw[Cf,sY,MR];simp only[kG,dz];omega);have om:=Qh oC;have MO:=Qh rq;have aM:=Qh pY;clear Cf z6 MP MR hl2 rq pY oC;generalize wr.iterAt W.heap.size ⟨s.toArray⟩ (k+1)=wv at *;go_wp2_with fail;with_reducible refine(JD _).mono ?_
     rintro e w3 ⟨rfl,rfl⟩;go_wp2_with fail;go_roundw;case rel=>exact⟨k+1,ae,rfl,MQ.o,om.o,MO.o,aM.o⟩
     case measure=>rw[rU om.o,HM.o];omega
   ·have cz:k=s.length:=ae;have aeM:N=s.length:=(by rw[Cf,cz,qZ];simp);have fR:¬ k < (⟨s.toArray⟩:ByteArray).size:=hlt;have dW:∀ ty,(Instr.next (.pointer (some ⟨W.heap.size,0,none⟩)) true ty).run prog wr=_:=fun ty=>IF wr W.heap.size ⟨s.toArray⟩ k ty hit fR
    obtain⟨⟨r0,r1,r2,r3⟩,f0,f1,f2,f3⟩:=bO.four;have aM:=Qh bh;rw[aeM]at Rn HN;clear fR hit bO bh Cf aeM cz HM hNl;go_wp2_with fail;exact bB (v:=iq 1 (s.take s.length) s.length) zn rfl ⟨fV,gp aM.o af _ _ _ _⟩
 case false=>
  rw[hl]at cl;have dM:V=if (eZ (ay s).1 || jI (ay s).1 s)=true then (if fg s=0 then gI 8 else iq 2 (s.take (fg s)) (fg s))
    else if (ay s).1=34 then D8 s else if oK (ay s).1=true then iq 4 (s.take 1) 1 else if jv s=true then iq 4 (s.take 3) 3 else gI 7:=by
   rw[HV.o];unfold JC;rw[if_neg (by rw[hl];decide)]
  have hnl:=Rm s;cases jn:eZ (ay s).1
  case true=>
   rw[jn]at kO;rw[jn,Bool.true_or,if_pos rfl]at dM;clear HV HH hl gl hne jn;by_cases h0:fg s=0
   ·have HN:=Qh (show V=gI 8 by rw[dM,if_pos h0]);rw[h0]at kS;clear HX h0 dM;go_enter func81,ntmps81
    go_wp2_with fail;with_reducible refine(cl _).mono ?_
    rintro e w1 ⟨rfl,rfl⟩;generalize w.alloc (.cells #[.int .i64 0,.string ⟨#[]⟩,.int .i64 0,.int .i64 0] 129)=W at *;obtain⟨⟨r0,r1,r2,r3⟩,f0,f1,f2,f3⟩:=df.o.four;clear cl;go_wp2_with fail;with_reducible refine(kO _).mono ?_
    rintro e w2 ⟨rfl,rfl⟩;go_wp2_with fail;with_reducible refine(kS _).mono ?_
    rintro e w3 ⟨rfl,hb⟩;have aM:=Qh (aH bE.o hb af);clear r0 r1 r2 r3 f0 f1 f2 f3;obtain⟨⟨r0,r1,r2,r3⟩,f0,f1,f2,f3⟩:=(df.o.keep hb af).four;clear hb kS;go_wp2_with fail;exact bB (v:=gI 8) xg rfl ⟨fV,gp aM.o af _ _ _ _⟩
   ·have uR:=Qh (show V=iq 2 (s.take (fg s)) (fg s)by rw[dM,if_neg h0]);have Rn:=HX.o (fg s);have mF:((fg s:Int) == 0)=false:=ft;clear HX h0 dM;generalize fg s=n at *;have HN:=Qh uR.o;clear uR;go_enter func81,ntmps81
    go_wp2_with fail;with_reducible refine(cl _).mono ?_
    rintro e w1 ⟨rfl,rfl⟩;generalize w.alloc (.cells #[.int .i64 0,.string ⟨#[]⟩,.int .i64 0,.int .i64 0] 129)=W at *;obtain⟨⟨r0,r1,r2,r3⟩,f0,f1,f2,f3⟩:=df.o.four;clear cl;go_wp2_with fail;with_reducible refine(kO _).mono ?_
    rintro e w2 ⟨rfl,rfl⟩;go_wp2_with fail;with_reducible refine(kS _).mono ?_
    rintro e w3 ⟨rfl,hb⟩;have aM:=Qh (aH bE.o hb af);clear r0 r1 r2 r3 f0 f1 f2 f3;obtain⟨⟨r0,r1,r2,r3⟩,f0,f1,f2,f3⟩:=(df.o.keep hb af).four;clear hb kS;go_wp2_with fail;exact bB (v:=iq 2 (s.take n) n) zn rfl ⟨fV,gp aM.o af _ _ _ _⟩
  case false=>
   rw[jn]at kO;rw[jn,Bool.false_or]at dM;have MS:(ay s).1=43∨(ay s).1=45→oK (ay s).1=false∧jv s=false:=by
    intro h;refine⟨by rcases h with h|h<;>rw[h]<;>rfl,?_⟩;have h9:=HH.o ae;have h0:s[0]≠64:=by
     intro e;rw[h9.1]at h;simp only[e]at h;rcases h with h|h<;>exact absurd h ah
    clear h9 h;rcases s with _|⟨c,t⟩
    ·exact absurd rfl hne
    ·simp only[zu]at h0;unfold jv;have hb:∀ l,((c::t).take 3 == (64::l))=false:=fun l=>by
      rw[gT];intro e;rw[vM]at e;exact h0 (List.cons.inj e).1
     rw[hb,hb,hb,hb];rfl
   by_cases D9:(ay s).1=43
   ·have hR:=D9;clear D9;have zU:(((ay s).1:Int) == 34)=false:=(by rw[hR];rfl);have gR:(((ay s).1:Int) == 43)=true:=(by rw[hR];rfl);have gR2:(((ay s).1:Int) == 45)=false:=(by rw[hR];rfl);obtain⟨cV,jT⟩:=MS ae;have vC:¬ (ay s).1=34:=(by rw[hR];decide);rw[cV]at gl;have HR:=Qh hR;clear hR MS;by_cases h1:1 < s.length
    ·have hsc:jI (ay s).1 s=eZ s[1].toNat:=(by unfold jI;rw[HR.o,kC h1];rfl);rw[hsc]at dM;have lA:=Jt s[1].toNat;have fZ:(⟨s.toArray⟩:ByteArray)[1]'h1=s[1]:=rfl;have hw:IntKind.i32.wrap (s[1].toNat:Int)=(s[1].toNat:Int):=by
      have:=vP s[1];unfold IntKind.wrap;simp[IntKind.bits,IntKind.signed];omega
     have g1:(1:Int) < s.length:=ae;cases rD:eZ s[1].toNat
     case true=>
      rw[rD]at lA;rw[rD,if_pos rfl]at dM;generalize s[1]=c1 at *;clear rD hsc cV jT vC;clear HV HH hl gl hne jn;by_cases h0:fg s=0
      ·have HN:=Qh (show V=gI 8 by rw[dM,if_pos h0]);rw[h0]at kS;clear HX h0 dM;go_enter func81,ntmps81
       go_wp2_with fail;with_reducible refine(cl _).mono ?_
       rintro e w1 ⟨rfl,rfl⟩;generalize w.alloc (.cells #[.int .i64 0,.string ⟨#[]⟩,.int .i64 0,.int .i64 0] 129)=W at *;obtain⟨⟨r0,r1,r2,r3⟩,f0,f1,f2,f3⟩:=df.o.four;clear cl;go_wp2_with fail;with_reducible refine(kO _).mono ?_
       rintro e w2 ⟨rfl,rfl⟩;go_wp2_with fail;with_reducible refine(lA _).mono ?_
       rintro e w4 ⟨rfl,rfl⟩;clear lA;go_wp2_with fail;with_reducible refine(kS _).mono ?_
       rintro e w3 ⟨rfl,hb⟩;have aM:=Qh (aH bE.o hb af);clear r0 r1 r2 r3 f0 f1 f2 f3;obtain⟨⟨r0,r1,r2,r3⟩,f0,f1,f2,f3⟩:=(df.o.keep hb af).four;clear hb kS;go_wp2_with fail;exact bB (v:=gI 8) xg rfl ⟨fV,gp aM.o af _ _ _ _⟩
      ·have uR:=Qh (show V=iq 2 (s.take (fg s)) (fg s)by rw[dM,if_neg h0]);have Rn:=HX.o (fg s);have mF:((fg s:Int) == 0)=false:=ft;clear HX h0 dM;generalize fg s=n at *;have HN:=Qh uR.o;clear uR;go_enter func81,ntmps81
       go_wp2_with fail;with_reducible refine(cl _).mono ?_
       rintro e w1 ⟨rfl,rfl⟩;generalize w.alloc (.cells #[.int .i64 0,.string ⟨#[]⟩,.int .i64 0,.int .i64 0] 129)=W at *;obtain⟨⟨r0,r1,r2,r3⟩,f0,f1,f2,f3⟩:=df.o.four;clear cl;go_wp2_with fail;with_reducible refine(kO _).mono ?_
       rintro e w2 ⟨rfl,rfl⟩;go_wp2_with fail;with_reducible refine(lA _).mono ?_
       rintro e w4 ⟨rfl,rfl⟩;clear lA;go_wp2_with fail;with_reducible refine(kS _).mono ?_
       rintro e w3 ⟨rfl,hb⟩;have aM:=Qh (aH bE.o hb af);clear r0 r1 r2 r3 f0 f1 f2 f3;obtain⟨⟨r0,r1,r2,r3⟩,f0,f1,f2,f3⟩:=(df.o.keep hb af).four;clear hb kS;go_wp2_with fail;exact bB (v:=iq 2 (s.take n) n) zn rfl ⟨fV,gp aM.o af _ _ _ _⟩
     case false=>
      rw[rD]at lA;rw[rD,if_neg ah,if_neg vC,if_neg (by rw[cV];decide),if_neg (by rw[jT];decide)]at dM;generalize s[1]=c1 at *;have HN:=Qh dM;clear rD hsc cV dM HV HH hl jn hne kS vC;unfold jv at jT;simp only[Bt]at jT;by_cases g3:(3:Int)≤s.length
      ·have hx3:=HX.o 3;obtain⟨⟨⟨e1,e2⟩,e3⟩,e4⟩:=jT;generalize s.take 3=T3 at *;clear HX;go_enter func81,ntmps81
       go_wp2_with fail;with_reducible refine(cl _).mono ?_
       rintro e w1 ⟨rfl,rfl⟩;generalize w.alloc (.cells #[.int .i64 0,.string ⟨#[]⟩,.int .i64 0,.int .i64 0] 129)=W at *;obtain⟨⟨r0,r1,r2,r3⟩,f0,f1,f2,f3⟩:=df.o.four;clear cl;go_wp2_with fail;with_reducible refine(kO _).mono ?_
       rintro e w2 ⟨rfl,rfl⟩;go_wp2_with fail;with_reducible refine(lA _).mono ?_
       rintro e w4 ⟨rfl,rfl⟩;clear lA;go_wp2_with fail;with_reducible refine(gl _).mono ?_
       rintro e w5 ⟨rfl,hb⟩;have aM:=Qh (aH bE.o hb af);clear r0 r1 r2 r3 f0 f1 f2 f3;obtain⟨⟨r0,r1,r2,r3⟩,f0,f1,f2,f3⟩:=(df.o.keep hb af).four;clear hb gl;go_wp2_with fail;exact bB (v:=gI 7) xg rfl ⟨fV,gp aM.o af _ _ _ _⟩
      ·clear HX jT;go_enter func81,ntmps81
       go_wp2_with fail;with_reducible refine(cl _).mono ?_
       rintro e w1 ⟨rfl,rfl⟩;generalize w.alloc (.cells #[.int .i64 0,.string ⟨#[]⟩,.int .i64 0,.int .i64 0] 129)=W at *;obtain⟨⟨r0,r1,r2,r3⟩,f0,f1,f2,f3⟩:=df.o.four;clear cl;go_wp2_with fail;with_reducible refine(kO _).mono ?_
       rintro e w2 ⟨rfl,rfl⟩;go_wp2_with fail;with_reducible refine(lA _).mono ?_
       rintro e w4 ⟨rfl,rfl⟩;clear lA;go_wp2_with fail;with_reducible refine(gl _).mono ?_
       rintro e w5 ⟨rfl,hb⟩;have aM:=Qh (aH bE.o hb af);clear r0 r1 r2 r3 f0 f1 f2 f3;obtain⟨⟨r0,r1,r2,r3⟩,f0,f1,f2,f3⟩:=(df.o.keep hb af).four;clear hb gl;go_wp2_with fail;exact bB (v:=gI 7) xg rfl ⟨fV,gp aM.o af _ _ _ _⟩
    ·have hsc:jI (ay s).1 s=false:=(by unfold jI;rw[Fp ae,Bool.and_false]);have g1:¬ (1:Int) < s.length:=ae;rw[hsc,if_neg ah,if_neg vC,if_neg (by rw[cV];decide),if_neg (by rw[jT];decide)]at dM;have HN:=Qh dM;clear hsc cV dM HV HH hl jn hne kS vC;unfold jv at jT;simp only[Bt]at jT;by_cases g3:(3:Int)≤s.length
     ·have hx3:=HX.o 3;obtain⟨⟨⟨e1,e2⟩,e3⟩,e4⟩:=jT;generalize s.take 3=T3 at *;exfalso;omega
     ·clear HX jT;go_enter func81,ntmps81
      go_wp2_with fail;with_reducible refine(cl _).mono ?_
      rintro e w1 ⟨rfl,rfl⟩;generalize w.alloc (.cells #[.int .i64 0,.string ⟨#[]⟩,.int .i64 0,.int .i64 0] 129)=W at *;obtain⟨⟨r0,r1,r2,r3⟩,f0,f1,f2,f3⟩:=df.o.four;clear cl;go_wp2_with fail;with_reducible refine(kO _).mono ?_
      rintro e w2 ⟨rfl,rfl⟩;go_wp2_with fail;with_reducible refine(gl _).mono ?_
      rintro e w5 ⟨rfl,hb⟩;have aM:=Qh (aH bE.o hb af);clear r0 r1 r2 r3 f0 f1 f2 f3;obtain⟨⟨r0,r1,r2,r3⟩,f0,f1,f2,f3⟩:=(df.o.keep hb af).four;clear hb gl;go_wp2_with fail;exact bB (v:=gI 7) xg rfl ⟨fV,gp aM.o af _ _ _ _⟩
   by_cases hR:(ay s).1=45
   ·skip
    have zU:(((ay s).1:Int) == 34)=false:=(by rw[hR];rfl);have gR:(((ay s).1:Int) == 43)=false:=(by rw[hR];rfl);have gR2:(((ay s).1:Int) == 45)=true:=(by rw[hR];rfl);obtain⟨cV,jT⟩:=MS ae;have vC:¬ (ay s).1=34:=(by rw[hR];decide);rw[cV]at gl;have HR:=Qh hR;clear hR MS D9;by_cases h1:1 < s.length
    ·have hsc:jI (ay s).1 s=eZ s[1].toNat:=(by unfold jI;rw[HR.o,kC h1];rfl);rw[hsc]at dM;have lA:=Jt s[1].toNat;have fZ:(⟨s.toArray⟩:ByteArray)[1]'h1=s[1]:=rfl;have hw:IntKind.i32.wrap (s[1].toNat:Int)=(s[1].toNat:Int):=by
      have:=vP s[1];unfold IntKind.wrap;simp[IntKind.bits,IntKind.signed];omega
     have g1:(1:Int) < s.length:=ae;cases rD:eZ s[1].toNat
     case true=>
      rw[rD]at lA;rw[rD,if_pos rfl]at dM;generalize s[1]=c1 at *;clear rD hsc cV jT vC;clear HV HH hl gl hne jn;by_cases h0:fg s=0
      ·have HN:=Qh (show V=gI 8 by rw[dM,if_pos h0]);rw[h0]at kS;clear HX h0 dM;go_enter func81,ntmps81
       go_wp2_with fail;with_reducible refine(cl _).mono ?_
       rintro e w1 ⟨rfl,rfl⟩;generalize w.alloc (.cells #[.int .i64 0,.string ⟨#[]⟩,.int .i64 0,.int .i64 0] 129)=W at *;obtain⟨⟨r0,r1,r2,r3⟩,f0,f1,f2,f3⟩:=df.o.four;clear cl;go_wp2_with fail;with_reducible refine(kO _).mono ?_
       rintro e w2 ⟨rfl,rfl⟩;go_wp2_with fail;with_reducible refine(lA _).mono ?_
       rintro e w4 ⟨rfl,rfl⟩;clear lA;go_wp2_with fail;with_reducible refine(kS _).mono ?_
       rintro e w3 ⟨rfl,hb⟩;have aM:=Qh (aH bE.o hb af);clear r0 r1 r2 r3 f0 f1 f2 f3;obtain⟨⟨r0,r1,r2,r3⟩,f0,f1,f2,f3⟩:=(df.o.keep hb af).four;clear hb kS;go_wp2_with fail;exact bB (v:=gI 8) xg rfl ⟨fV,gp aM.o af _ _ _ _⟩
      ·have uR:=Qh (show V=iq 2 (s.take (fg s)) (fg s)by rw[dM,if_neg h0]);have Rn:=HX.o (fg s);have mF:((fg s:Int) == 0)=false:=ft;clear HX h0 dM;generalize fg s=n at *;have HN:=Qh uR.o;clear uR;go_enter func81,ntmps81
       go_wp2_with fail;with_reducible refine(cl _).mono ?_
       rintro e w1 ⟨rfl,rfl⟩;generalize w.alloc (.cells #[.int .i64 0,.string ⟨#[]⟩,.int .i64 0,.int .i64 0] 129)=W at *;obtain⟨⟨r0,r1,r2,r3⟩,f0,f1,f2,f3⟩:=df.o.four;clear cl;go_wp2_with fail;with_reducible refine(kO _).mono ?_
       rintro e w2 ⟨rfl,rfl⟩;go_wp2_with fail;with_reducible refine(lA _).mono ?_
       rintro e w4 ⟨rfl,rfl⟩;clear lA;go_wp2_with fail;with_reducible refine(kS _).mono ?_
       rintro e w3 ⟨rfl,hb⟩;have aM:=Qh (aH bE.o hb af);clear r0 r1 r2 r3 f0 f1 f2 f3;obtain⟨⟨r0,r1,r2,r3⟩,f0,f1,f2,f3⟩:=(df.o.keep hb af).four;clear hb kS;go_wp2_with fail;exact bB (v:=iq 2 (s.take n) n) zn rfl ⟨fV,gp aM.o af _ _ _ _⟩
     case false=>
      rw[rD]at lA;rw[rD,if_neg ah,if_neg vC,if_neg (by rw[cV];decide),if_neg (by rw[jT];decide)]at dM;generalize s[1]=c1 at *;have HN:=Qh dM;clear rD hsc cV dM HV HH hl jn hne kS vC;unfold jv at jT;simp only[Bt]at jT;by_cases g3:(3:Int)≤s.length
      ·have hx3:=HX.o 3;obtain⟨⟨⟨e1,e2⟩,e3⟩,e4⟩:=jT;generalize s.take 3=T3 at *;clear HX;go_enter func81,ntmps81
       go_wp2_with fail;with_reducible refine(cl _).mono ?_
       rintro e w1 ⟨rfl,rfl⟩;generalize w.alloc (.cells #[.int .i64 0,.string ⟨#[]⟩,.int .i64 0,.int .i64 0] 129)=W at *;obtain⟨⟨r0,r1,r2,r3⟩,f0,f1,f2,f3⟩:=df.o.four;clear cl;go_wp2_with fail;with_reducible refine(kO _).mono ?_
       rintro e w2 ⟨rfl,rfl⟩;go_wp2_with fail;with_reducible refine(lA _).mono ?_
       rintro e w4 ⟨rfl,rfl⟩;clear lA;go_wp2_with fail;with_reducible refine(gl _).mono ?_
       rintro e w5 ⟨rfl,hb⟩;have aM:=Qh (aH bE.o hb af);clear r0 r1 r2 r3 f0 f1 f2 f3;obtain⟨⟨r0,r1,r2,r3⟩,f0,f1,f2,f3⟩:=(df.o.keep hb af).four;clear hb gl;go_wp2_with fail;exact bB (v:=gI 7) xg rfl ⟨fV,gp aM.o af _ _ _ _⟩
      ·clear HX jT;go_enter func81,ntmps81
       go_wp2_with fail;with_reducible refine(cl _).mono ?_
       rintro e w1 ⟨rfl,rfl⟩;generalize w.alloc (.cells #[.int .i64 0,.string ⟨#[]⟩,.int .i64 0,.int .i64 0] 129)=W at *;obtain⟨⟨r0,r1,r2,r3⟩,f0,f1,f2,f3⟩:=df.o.four;clear cl;go_wp2_with fail;with_reducible refine(kO _).mono ?_
       rintro e w2 ⟨rfl,rfl⟩;go_wp2_with fail;with_reducible refine(lA _).mono ?_
       rintro e w4 ⟨rfl,rfl⟩;clear lA;go_wp2_with fail;with_reducible refine(gl _).mono ?_
       rintro e w5 ⟨rfl,hb⟩;have aM:=Qh (aH bE.o hb af);clear r0 r1 r2 r3 f0 f1 f2 f3;obtain⟨⟨r0,r1,r2,r3⟩,f0,f1,f2,f3⟩:=(df.o.keep hb af).four;clear hb gl;go_wp2_with fail;exact bB (v:=gI 7) xg rfl ⟨fV,gp aM.o af _ _ _ _⟩
    ·have hsc:jI (ay s).1 s=false:=(by unfold jI;rw[Fp ae,Bool.and_false]);have g1:¬ (1:Int) < s.length:=ae;rw[hsc,if_neg ah,if_neg vC,if_neg (by rw[cV];decide),if_neg (by rw[jT];decide)]at dM;have HN:=Qh dM;clear hsc cV dM HV HH hl jn hne kS vC;unfold jv at jT;simp only[Bt]at jT;by_cases g3:(3:Int)≤s.length
     ·have hx3:=HX.o 3;obtain⟨⟨⟨e1,e2⟩,e3⟩,e4⟩:=jT;generalize s.take 3=T3 at *;exfalso;omega
     ·clear HX jT;go_enter func81,ntmps81
      go_wp2_with fail;with_reducible refine(cl _).mono ?_
      rintro e w1 ⟨rfl,rfl⟩;generalize w.alloc (.cells #[.int .i64 0,.string ⟨#[]⟩,.int .i64 0,.int .i64 0] 129)=W at *;obtain⟨⟨r0,r1,r2,r3⟩,f0,f1,f2,f3⟩:=df.o.four;clear cl;go_wp2_with fail;with_reducible refine(kO _).mono ?_
      rintro e w2 ⟨rfl,rfl⟩;go_wp2_with fail;with_reducible refine(gl _).mono ?_
      rintro e w5 ⟨rfl,hb⟩;have aM:=Qh (aH bE.o hb af);clear r0 r1 r2 r3 f0 f1 f2 f3;obtain⟨⟨r0,r1,r2,r3⟩,f0,f1,f2,f3⟩:=(df.o.keep hb af).four;clear hb gl;go_wp2_with fail;exact bB (v:=gI 7) xg rfl ⟨fV,gp aM.o af _ _ _ _⟩
   have hsc:jI (ay s).1 s=false:=by
    unfold jI;rw[bN D9,bN hR];rfl
   rw[hsc,if_neg ah]at dM;have gR:(((ay s).1:Int) == 43)=false:=ft;have gR2:(((ay s).1:Int) == 45)=false:=ft;clear hsc MS HV hl jn kS D9 hR;by_cases gy:(ay s).1=34
   ·rw[if_pos gy]at dM;have zU:(((ay s).1:Int) == 34)=true:=(by rw[gy];rfl);have hq:s.head? = some 34:=by
     have h9:=HH.o ae;rw[h9.1]at gy;rcases s with _|⟨c,t⟩
     ·exact absurd rfl hne
     ·simp only[zu]at gy;have:c=34:=nK.1 gy;rw[this];rfl
    have ct:=fun w hT=>ang s hs hq w hT
    obtain⟨k,t,n,e,hte⟩:∃ (k:Int) (t:List UInt8) (n e:Int),D8 s=.tuple #[qj k t (0,0),.int .i64 n,.int .i64 e]:=by
     unfold D8 sA;split
     ·exact⟨0,[],0,(6:Nat),rfl⟩
     ·split
      ·split
       ·exact⟨0,[],0,(5:Nat),rfl⟩
       ·exact⟨0,[],0,(6:Nat),rfl⟩
      ·exact⟨3,_,_,0,rfl⟩
    rw[hte]at dM ct;unfold qj at ct;clear hte;have HN:=Qh dM;clear dM gy hq HH HX hne gl;go_enter func81,ntmps81
    go_wp2_with fail;with_reducible refine(cl _).mono ?_
    rintro e w1 ⟨rfl,rfl⟩;generalize w.alloc (.cells #[.int .i64 0,.string ⟨#[]⟩,.int .i64 0,.int .i64 0] 129)=W at *;obtain⟨⟨r0,r1,r2,r3⟩,f0,f1,f2,f3⟩:=df.o.four;clear cl;go_wp2_with fail;with_reducible refine(kO _).mono ?_
    rintro e w2 ⟨rfl,rfl⟩;go_wp2_with fail;with_reducible refine(ct _ (HT.o.keep bE.o)).mono ?_
    rintro e w5 ⟨rfl,hb⟩;have aM:=Qh (aH bE.o hb af);clear r0 r1 r2 r3 f0 f1 f2 f3;obtain⟨⟨r0,r1,r2,r3⟩,f0,f1,f2,f3⟩:=(df.o.keep hb af).four;clear hb ct;go_wp2_with fail;exact bB (v:=.tuple #[qj k t (0,0),.int .i64 n,.int .i64 e]) (by simp[results,results81,go_sem,r0,r1,r2,r3,qj]) rfl ⟨fV,gp aM.o af _ _ _ _⟩
   ·rw[if_neg gy]at dM;have zU:(((ay s).1:Int) == 34)=false:=ft;clear gy HH;cases cV:oK (ay s).1
    case true=>
     rw[cV]at gl;rw[cV,if_pos rfl]at dM;have hx1:=HX.o 1;have g1:(1:Int)≤s.length:=ae;have HN:=Qh dM;clear dM cV HX hne;go_enter func81,ntmps81
     go_wp2_with fail;with_reducible refine(cl _).mono ?_
     rintro e w1 ⟨rfl,rfl⟩;generalize w.alloc (.cells #[.int .i64 0,.string ⟨#[]⟩,.int .i64 0,.int .i64 0] 129)=W at *;obtain⟨⟨r0,r1,r2,r3⟩,f0,f1,f2,f3⟩:=df.o.four;clear cl;go_wp2_with fail;with_reducible refine(kO _).mono ?_
     rintro e w2 ⟨rfl,rfl⟩;go_wp2_with fail;with_reducible refine(gl _).mono ?_
     rintro e w5 ⟨rfl,hb⟩;have aM:=Qh (aH bE.o hb af);clear r0 r1 r2 r3 f0 f1 f2 f3;obtain⟨⟨r0,r1,r2,r3⟩,f0,f1,f2,f3⟩:=(df.o.keep hb af).four;clear hb gl;go_wp2_with fail;exact bB (v:=iq 4 (s.take 1) 1) zn rfl ⟨fV,gp aM.o af _ _ _ _⟩
    case false=>
     rw[cV]at gl;rw[cV,if_neg ah]at dM;have uS:=dM;clear dM cV;by_cases h3:3≤s.length
     ·have hx3:=HX.o 3;have g3:(3:Int)≤s.length:=ae;unfold jv at uS;generalize s.take 3=T3 at *;clear HX hne h3;by_cases WN:T3=[64,48,43]
      ·subst WN;have HN:=Qh (show V=iq 4 [64,48,43] 3 by rw[uS];rfl);clear uS;go_enter func81,ntmps81
       go_wp2_with fail;with_reducible refine(cl _).mono ?_
       rintro e w1 ⟨rfl,rfl⟩;generalize w.alloc (.cells #[.int .i64 0,.string ⟨#[]⟩,.int .i64 0,.int .i64 0] 129)=W at *;obtain⟨⟨r0,r1,r2,r3⟩,f0,f1,f2,f3⟩:=df.o.four;clear cl;go_wp2_with fail;with_reducible refine(kO _).mono ?_
       rintro e w2 ⟨rfl,rfl⟩;go_wp2_with fail;with_reducible refine(gl _).mono ?_
       rintro e w5 ⟨rfl,hb⟩;have aM:=Qh (aH bE.o hb af);clear r0 r1 r2 r3 f0 f1 f2 f3;obtain⟨⟨r0,r1,r2,r3⟩,f0,f1,f2,f3⟩:=(df.o.keep hb af).four;clear hb gl;go_wp2_with fail;exact bB (v:=iq 4 [64,48,43] 3) zn rfl ⟨fV,gp aM.o af _ _ _ _⟩
      by_cases WO:T3=[64,48,45]
      ·subst WO;have HN:=Qh (show V=iq 4 [64,48,45] 3 by rw[uS];rfl);clear uS;go_enter func81,ntmps81
       go_wp2_with fail;with_reducible refine(cl _).mono ?_
       rintro e w1 ⟨rfl,rfl⟩;generalize w.alloc (.cells #[.int .i64 0,.string ⟨#[]⟩,.int .i64 0,.int .i64 0] 129)=W at *;obtain⟨⟨r0,r1,r2,r3⟩,f0,f1,f2,f3⟩:=df.o.four;clear cl;go_wp2_with fail;with_reducible refine(kO _).mono ?_
       rintro e w2 ⟨rfl,rfl⟩;go_wp2_with fail;with_reducible refine(gl _).mono ?_
       rintro e w5 ⟨rfl,hb⟩;have aM:=Qh (aH bE.o hb af);clear r0 r1 r2 r3 f0 f1 f2 f3;obtain⟨⟨r0,r1,r2,r3⟩,f0,f1,f2,f3⟩:=(df.o.keep hb af).four;clear hb gl;go_wp2_with fail;exact bB (v:=iq 4 [64,48,45] 3) zn rfl ⟨fV,gp aM.o af _ _ _ _⟩
      by_cases WR:T3=[64,49,43]
      ·subst WR;have HN:=Qh (show V=iq 4 [64,49,43] 3 by rw[uS];rfl);clear uS;go_enter func81,ntmps81
       go_wp2_with fail;with_reducible refine(cl _).mono ?_
       rintro e w1 ⟨rfl,rfl⟩;generalize w.alloc (.cells #[.int .i64 0,.string ⟨#[]⟩,.int .i64 0,.int .i64 0] 129)=W at *;obtain⟨⟨r0,r1,r2,r3⟩,f0,f1,f2,f3⟩:=df.o.four;clear cl;go_wp2_with fail;with_reducible refine(kO _).mono ?_
       rintro e w2 ⟨rfl,rfl⟩;go_wp2_with fail;with_reducible refine(gl _).mono ?_
       rintro e w5 ⟨rfl,hb⟩;have aM:=Qh (aH bE.o hb af);clear r0 r1 r2 r3 f0 f1 f2 f3;obtain⟨⟨r0,r1,r2,r3⟩,f0,f1,f2,f3⟩:=(df.o.keep hb af).four;clear hb gl;go_wp2_with fail;exact bB (v:=iq 4 [64,49,43] 3) zn rfl ⟨fV,gp aM.o af _ _ _ _⟩
      by_cases WS:T3=[64,49,45]
      ·subst WS;have HN:=Qh (show V=iq 4 [64,49,45] 3 by rw[uS];rfl);clear uS;go_enter func81,ntmps81
       go_wp2_with fail;with_reducible refine(cl _).mono ?_
       rintro e w1 ⟨rfl,rfl⟩;generalize w.alloc (.cells #[.int .i64 0,.string ⟨#[]⟩,.int .i64 0,.int .i64 0] 129)=W at *;obtain⟨⟨r0,r1,r2,r3⟩,f0,f1,f2,f3⟩:=df.o.four;clear cl;go_wp2_with fail;with_reducible refine(kO _).mono ?_
       rintro e w2 ⟨rfl,rfl⟩;go_wp2_with fail;with_reducible refine(gl _).mono ?_
       rintro e w5 ⟨rfl,hb⟩;have aM:=Qh (aH bE.o hb af);clear r0 r1 r2 r3 f0 f1 f2 f3;obtain⟨⟨r0,r1,r2,r3⟩,f0,f1,f2,f3⟩:=(df.o.keep hb af).four;clear hb gl;go_wp2_with fail;exact bB (v:=iq 4 [64,49,45] 3) zn rfl ⟨fV,gp aM.o af _ _ _ _⟩
      have b1:(T3 == [64,48,43])=false:=bN WN;have b2:(T3 == [64,48,45])=false:=bN WO;have b3:(T3 == [64,49,43])=false:=bN WR;have b4:(T3 == [64,49,45])=false:=bN WS;have HN:=Qh (show V=gI 7 by rw[uS,b1,b2,b3,b4];rfl);clear uS WN WO WR WS;go_enter func81,ntmps81
      go_wp2_with fail;with_reducible refine(cl _).mono ?_
      rintro e w1 ⟨rfl,rfl⟩;generalize w.alloc (.cells #[.int .i64 0,.string ⟨#[]⟩,.int .i64 0,.int .i64 0] 129)=W at *;obtain⟨⟨r0,r1,r2,r3⟩,f0,f1,f2,f3⟩:=df.o.four;clear cl;go_wp2_with fail;with_reducible refine(kO _).mono ?_
      rintro e w2 ⟨rfl,rfl⟩;go_wp2_with fail;with_reducible refine(gl _).mono ?_
      rintro e w5 ⟨rfl,hb⟩;have aM:=Qh (aH bE.o hb af);clear r0 r1 r2 r3 f0 f1 f2 f3;obtain⟨⟨r0,r1,r2,r3⟩,f0,f1,f2,f3⟩:=(df.o.keep hb af).four;clear hb gl;go_wp2_with fail;exact bB (v:=gI 7) xg rfl ⟨fV,gp aM.o af _ _ _ _⟩
     ·have g3:¬ (3:Int)≤s.length:=ae;have HN:=Qh (show V=gI 7 by
       rw[uS,if_neg];unfold jv;have hl3:(s.take 3).length < 3:=Fe;have hb:∀ a b c,(s.take 3 == [a,b,c])=false:=fun a b c=>by
        rw[gT];intro e;rw[e]at hl3;simp at hl3
       rw[hb,hb,hb,hb];decide)
      clear HX hne uS h3;go_enter func81,ntmps81
      go_wp2_with fail;with_reducible refine(cl _).mono ?_
      rintro e w1 ⟨rfl,rfl⟩;generalize w.alloc (.cells #[.int .i64 0,.string ⟨#[]⟩,.int .i64 0,.int .i64 0] 129)=W at *;obtain⟨⟨r0,r1,r2,r3⟩,f0,f1,f2,f3⟩:=df.o.four;clear cl;go_wp2_with fail;with_reducible refine(kO _).mono ?_
      rintro e w2 ⟨rfl,rfl⟩;go_wp2_with fail;with_reducible refine(gl _).mono ?_
      rintro e w5 ⟨rfl,hb⟩;have aM:=Qh (aH bE.o hb af);clear r0 r1 r2 r3 f0 f1 f2 f3;obtain⟨⟨r0,r1,r2,r3⟩,f0,f1,f2,f3⟩:=(df.o.keep hb af).four;clear hb gl;go_wp2_with fail;exact bB (v:=gI 7) xg rfl ⟨fV,gp aM.o af _ _ _ _⟩
end Go.Proofs.YtfflljgnpfldfaaGreatDoor
