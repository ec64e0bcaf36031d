/-
  A database without its places writes the same text.
-/
import Derived.Test.YtkblpaabknjckaaGreatDoorPrnR
import Derived.Test.YtkblpaabknjckaaGreatDoorTxtP
import Derived.Lib.AppendStr
import Derived.Test.YtkblpaabknjckaaGreatDoorRlxN
import Derived.Deep.Cut
import Derived.Deep.DeepCutAuto
import Derived.Test.YtkblpaabknjckaaGreatDoorLexB
import Derived.Test.YtkblpaabknjckaaGreatDoorLexG
import Derived.Test.YtkblpaabknjckaaGreatDoorChrE
import Derived.StillTailTactics
import Derived.Test.YtkblpaabknjckaaGreatDoorBaseD
import Derived.Lib.EndianBits
import Derived.Test.YtkblpaabknjckaaGreatDoorCopC
import Derived.Test.YtkblpaabknjckaaGreatDoorAppC
import Derived.Test.YtkblpaabknjckaaGreatDoorSamA
import Derived.Test.YtkblpaabknjckaaGreatDoorNodD
set_option maxHeartbeats 128000000
set_option linter.unusedVariables false
namespace Go.Proofs.YtkblpaabknjckaaGreatDoor
open Go.RowKit Go.Shelf
theorem joinTail_app (s:List UInt8) (l r:List (List UInt8)):Lib.joinTail s (l++r)=Lib.joinTail s l++Lib.joinTail s r:=by
 unfold Lib.joinTail;rw[List.map_append,List.flatten_append]
open Go.Proofs.Tryz
def numV (id:Nat) (wide:Bool):Value:=.tuple #[.string ⟨(if numB id then numT id wide else []).toArray⟩,.bool (numB id)]
theorem pnumber_any (id:Nat) (hid:id < 4294967296) (wide:Bool) (w:World) (hp:PowTab w) :
  Calls prog 85 #[.int .u32 (id:Nat),.bool wide] w fun e w'=>e=.returned (numV id wide)∧Below w.heap.size w w':=by
 obtain⟨V,hV⟩:∃ V,V=numV id wide:=⟨_,rfl⟩
 rw[← hV];unfold numV numB numT at hV;by_cases h:id < 2147483648
 ·have h':¬ (2147483648:Int)≤id:=(by omega);rw[decide_eq_true h]at hV;cases wide
  ·have HV:=Qh (show V=.tuple #[.string ⟨(Lib.decDigits id).toArray⟩,.bool true]by rw[hV];simp);clear hV;have c:=fmtUint_any id (by omega) w hp;have hw1:IntKind.u64.wrap (id:Int)=id:=(by unfold IntKind.wrap;simp[IntKind.bits,IntKind.signed];omega);generalize Lib.decDigits id=D at *;clear hp;go_enter func85,ntmps85
   go_wp2_with fail;(with_reducible refine c.mono ?_);rintro e w1 ⟨rfl,hb⟩;go_wp2_with fail;go_ret2
   exact⟨congrArg Ending.returned HV.out.symm,hb⟩
  ·have HV:=Qh (show V=.tuple #[.string ⟨(Lib.decDigits (id+2147483648)).toArray⟩,.bool true]by rw[hV];simp);clear hV;have c:=fmtUint_any (id+2147483648) (by omega) w hp;have hor:bits .or .u32 (id:Int) 2147483648=(id:Int)+2147483648:=bits_join_low .u32 32 (by decide) wraps_u32 31 _ _ (by omega) (by omega) (by omega) (by decide) (by decide) (by decide);have hw1:IntKind.u64.wrap ((id:Int)+2147483648)=(id:Int)+2147483648:=(by unfold IntKind.wrap;simp[IntKind.bits,IntKind.signed];omega);generalize Lib.decDigits (id+2147483648)=D at *;rw[show((id+2147483648:Nat):Int)=(id:Int)+2147483648 by omega]at c;clear hp;go_enter func85,ntmps85
   go_wp2_with fail;(with_reducible refine c.mono ?_);rintro e w1 ⟨rfl,hb⟩;go_wp2_with fail;go_ret2
   exact⟨congrArg Ending.returned HV.out.symm,hb⟩
 ·have h':(2147483648:Int)≤id:=(by omega);rw[decide_eq_false h]at hV;have HV:=Qh (show V=.tuple #[.string ⟨#[]⟩,.bool false]by rw[hV];simp);clear hV hp;go_enter func85,ntmps85
  go_wp2_with fail;go_ret2
  exact⟨congrArg Ending.returned HV.out.symm,Below.refl _ _⟩
structure SxOK (x:SigX):Prop where
 d:SigOK x.d
 n:x.rs.length≤4000000
 w:∀ r∈x.rs,r.length≤9223372036854775807
structure MsgOK (m:MsgD):Prop where
 id:m.id < 4294967296
 sz:In64 m.size
 nm:m.name.length≤100000000
 sn:m.sender.length≤100000000
 sg:∀ x∈m.sigs,SxOK x
theorem sig_len (u k:Nat) (hk:u+600≤k) (NM R I1 I2 O F0 F1 F2 F3 QU J:List UInt8) (a:NM.length≤64) (b:R.length≤22) (c:I1.length≤21) (d:I2.length≤21) (e:O.length≤3) (f0:F0.length≤100) (f1:F1.length≤100) (f2:F2.length≤100) (f3:F3.length≤100)
  (q:QU.length≤u) :
  ([83,71,95,32]++(NM++(R++([32,58,32]++(I1++([124]++(I2++(O++([32,40]++(F0++([44]++(F1++([41,32,91]++(F2++([124]++(F3++([93,32]++(QU++([32]++J))))))))))))))))))).length≤k+J.length:=by
 simp only[List.length_append,List.length_cons,List.length_nil];generalize NM.length=n1 at *;generalize R.length=n2 at *;generalize I1.length=n3 at *;generalize I2.length=n4 at *;generalize O.length=n5 at *;generalize F0.length=n6 at *;generalize F1.length=n7 at *;generalize F2.length=n8 at *;generalize F3.length=n9 at *;generalize QU.length=n10 at *;generalize J.length=n11 at *;simp only[Nat.zero_add,← Nat.add_assoc];omega
theorem sigT_len (x:SigX) (h:SxOK x) (hb:sxB x=true):(sxT x).length≤20000+66*x.rs.length:=by
 unfold sxB at hb;have hb2:=hb;unfold sigB allF at hb2;simp only[Bool.and_eq_true]at hb2;obtain⟨b1,⟨f1,f2,f3,f4⟩,b3,b4,b5,b6,b7,b8⟩:=hb2;have h1:=frac7_len _ _ h.d.s1 h.d.s2 f1;have h2:=frac7_len _ _ h.d.o1 h.d.o2 f2;have h3:=frac7_len _ _ h.d.m1 h.d.m2 f3;have h4:=frac7_len _ _ h.d.x1 h.d.x2 f4;have h5:=quo7_len x.d.unit b3;have h6:x.d.name.length≤64:=(by unfold wordB nameB at b4;simp at b4;omega);have h7:=join_words x.rs [44] (by decide) b8;have h8:=rol7_len x.d.role x.d.branch h.d.br;have h9:=itoa7_len x.d.start h.d.st;have h10:=itoa7_len x.d.size h.d.sz;have h11:=h.n;have h12:(ordL x.d.moto x.d.signed).length=3:=rfl;exact Nat.le_trans (sig_len 10000 20000 (by decide) x.d.name _ _ _ _ _ _ _ _ _ _ h6 h8 h9 h10 (Nat.le_of_eq h12) h1 h2 h3 h4 h5) (Nat.add_le_add_left h7 _)
theorem word_len {s:List UInt8} (h:wordB s=true):s.length≤64:=by unfold wordB nameB at h;simp at h;omega
theorem numT_len (id:Nat) (wide:Bool) (h:numB id=true):(numT id wide).length≤20:=by
 unfold numB at h;have:=of_decide_eq_true h;unfold numT;exact dec_len64 (by split<;>omega)
theorem sigs_len (l:List SigX) (h:∀ x∈l,SxOK x) (hb:l.all sxB=true):(linesT (l.map fun s=>32::sxT s)).length≤300000000*l.length:=by
 induction l with
 | nil=>simp[linesT]
 | cons x l ih=>
  rw[List.all_cons,Bool.and_eq_true]at hb;have h1:=ih (fun y hy=>h y (List.mem_cons_of_mem _ hy)) hb.2;have h2:=sigT_len x (h x (by simp)) hb.1;have h3:=(h x (by simp)).n;have e:linesT ((x::l).map fun s=>32::sxT s)=((32::sxT x)++[10])++linesT (l.map fun s=>32::sxT s):=rfl;rw[e];simp only[List.length_append,List.length_cons,List.length_nil];omega
structure TabOK (t:TabD):Prop where
 id:t.id < 4294967296
 sg:t.sig.length≤100000000
 rw:∀ r∈t.rows,In64 r.1∧r.2.length≤100000000
theorem rowT_len (r:Int×List UInt8) (h:In64 r.1) (hb:rowB r=true):(rowT r).length≤10100:=by
 have h1:=itoa7_len r.1 h;have h2:=quo7_len r.2 hb;unfold rowT;simp only[List.length_cons,List.length_append];omega
theorem rows_len (l:List (Int×List UInt8)) (h:∀ r∈l,In64 r.1) (hb:l.all rowB=true):(l.flatMap rowT).length≤10100*l.length:=by
 induction l with
 | nil=>simp
 | cons x l ih=>
  rw[List.all_cons,Bool.and_eq_true]at hb;have h1:=ih (fun y hy=>h y (List.mem_cons_of_mem _ hy)) hb.2;have h2:=rowT_len x (h x (by simp)) hb.1;rw[List.flatMap_cons,List.length_append,List.length_cons];omega
structure DbOK (d:DbD):Prop where
 tx:d.ver.text.length≤100000000
 nn:d.sta.names.length≤4000000
 nm:∀ r∈d.sta.names,r.length≤100000000
 ms:∀ m∈d.msgs,MsgOK m
 tb:∀ t∈d.tabs,TabOK t
def headB (d:DbD):Bool:=(!d.has || verB d.ver) && staB d.sta
theorem names_len (l:List (List UInt8)) (hb:l.all wordB=true):(l.flatMap fun x=>32::x).length≤65*l.length:=by
 induction l with
 | nil=>simp
 | cons x l ih=>
  rw[List.all_cons,Bool.and_eq_true]at hb;have h1:=ih hb.2;have h2:=word_len hb.1;rw[List.flatMap_cons,List.length_append,List.length_cons,List.length_cons];omega
theorem msgT_len (m:MsgD) (h:MsgOK m) (hb:msgB m=true):(linesT (msgL m)).length≤20000000000:=by
  unfold msgB at hb;simp only[Bool.and_eq_true,decide_eq_true_eq]at hb;obtain⟨b1,b2,b3,b4,b5,b6⟩:=hb;have h1:=sigs_len m.sigs h.sg b6;have h2:=word_len b2;have h3:=word_len b3;have h4:=numT_len m.id m.wide b1;have h5:=itoa7_len m.size h.sz;have e:linesT (msgL m)=([10]++(msgH m++[10]))++linesT (m.sigs.map fun s=>32::sxT s):=(by unfold msgL;simp[linesT]);rw[e];unfold msgH;generalize (linesT (m.sigs.map fun s=>32::sxT s))=Z at *;generalize numT m.id m.wide=N at *;generalize Lib.itoa m.size=I at *;simp only[List.length_append,List.length_cons,List.length_nil];omega
theorem tabT_len (t:TabD) (h:TabOK t) (hb:tabB t=true):(tabT t++[10]).length≤3000000:=by
  unfold tabB at hb;simp only[Bool.and_eq_true,decide_eq_true_eq]at hb;obtain⟨b1,b2,b3,b4⟩:=hb;have h1:=rows_len t.rows (fun r hr=>(h.rw r hr).1) b4;have h2:=word_len b2;have h4:=numT_len t.id t.wide b1;unfold tabT;generalize t.rows.flatMap rowT=Z at *;generalize numT t.id t.wide=N at *;simp only[List.length_append,List.length_cons,List.length_nil];omega
theorem msgs_len (l:List MsgD) (h:∀ m∈l,MsgOK m) (hb:l.all msgB=true):(l.flatMap fun m=>linesT (msgL m)).length≤20000000000*l.length:=by
  induction l with
  | nil=>simp
  | cons x l ih=>
    rw[List.all_cons,Bool.and_eq_true]at hb;have h1:=ih (fun y hy=>h y (List.mem_cons_of_mem _ hy)) hb.2;have h2:=msgT_len x (h x (by simp)) hb.1;rw[List.flatMap_cons,List.length_append,List.length_cons];omega
theorem tabs_len (l:List TabD) (h:∀ m∈l,TabOK m) (hb:l.all tabB=true):(l.flatMap fun t=>tabT t++[10]).length≤3000000*l.length:=by
  induction l with
  | nil=>simp
  | cons x l ih=>
    rw[List.all_cons,Bool.and_eq_true]at hb;have h1:=ih (fun y hy=>h y (List.mem_cons_of_mem _ hy)) hb.2;have h2:=tabT_len x (h x (by simp)) hb.1;rw[List.flatMap_cons,List.length_append,List.length_cons];omega
theorem head_len (d:DbD) (h:DbOK d) (hb:headB d=true):(dbHead d).length≤300000000:=by
  unfold headB at hb;simp only[Bool.and_eq_true,Bool.or_eq_true,Bool.not_eq_true']at hb;obtain⟨h1,h2⟩:=hb;have h3:=names_len d.sta.names h2;have h4:=h.nn;unfold dbHead staT;generalize (d.sta.names.flatMap fun z=>32::z)=Z at *;cases hh:d.has
  · simp only[Bool.false_eq_true,if_false,List.nil_append,List.length_append,List.length_cons,List.length_nil]
    omega
  · have h5:=quo7_len d.ver.text (h1.elim (fun h1=>by rw[hh]at h1;cases h1) id)
    unfold verT;generalize quoL d.ver.text=Q at *;simp only[if_true,List.length_append,List.length_cons,List.length_nil];omega
def filN (d:DbD):Nat:=if dbB d=true then (if (dbT d).length≤1048576 then 0 else 5) else 4
def filT (d:DbD):List UInt8:=if filN d=0 then dbT d else []
theorem dbB_eq (d:DbD):dbB d=(headB d && (decide (d.msgs.length≤512) && (d.msgs.all msgB && d.tabs.all tabB))):=by
  unfold dbB headB;cases (!d.has || verB d.ver)<;>rfl
theorem fil_bad (d:DbD) (h:dbB d=false):filN d=4∧filT d=[]:=by
  have:filN d=4:=by unfold filN;rw[h];rfl
  exact⟨this,by unfold filT;rw[this];rfl⟩
theorem fil_long (d:DbD) (h:dbB d=true) (hl:¬ (dbT d).length≤1048576):filN d=5∧filT d=[]:=by
  have:filN d=5:=by unfold filN;rw[if_pos h,if_neg hl]
  exact⟨this,by unfold filT;rw[this];rfl⟩
theorem fil_good (d:DbD) (h:dbB d=true) (hl:(dbT d).length≤1048576):filN d=0∧filT d=dbT d:=by
  have:filN d=0:=by unfold filN;rw[if_pos h,if_pos hl]
  exact⟨this,by unfold filT;rw[if_pos this]⟩
open Go.RowKit
theorem fil_zero {d:DbD} (h:filN d=0):dbB d=true∧(dbT d).length≤1048576:=by
 cases hb:dbB d
 ·rw[(fil_bad d hb).1]at h;omega
 ·refine⟨rfl,?_⟩;by_cases hl:(dbT d).length≤1048576
  ·exact hl
  ·rw[(fil_long d hb hl).1]at h;omega
end Go.Proofs.YtkblpaabknjckaaGreatDoor
