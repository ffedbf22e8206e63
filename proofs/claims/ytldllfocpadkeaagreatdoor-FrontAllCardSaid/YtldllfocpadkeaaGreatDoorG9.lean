/-
  Part of the proof. No condition.
-/
import Derived.Test.YtldllfocpadkeaaGreatDoorG8
noncomputable section
namespace Nice
open Go Go.Eng
abbrev IT:Ty:=.int .i64
open Go Go.Eng
abbrev gZ (e:EntD):List Bool:=[decide (((e.2.1.length:Int)-1).toNat<e.2.1.length),decide (0<=(e.2.1.length:Int)-1),decide ((e.2.1.length:Int)-1<(e.2.1.length:Int)),decide (inK .i64 ((e.2.1.length:Int)-1)),entP (e.1,e.2.1,())]
open Go Go.Eng
abbrev FrontO:OT:=.pair (.ptr ScanO 165) (.pair (.vec ReqT 62) (.pair (.d AskT) (.pair (.d .bool) (.pair (.d .str) (.pair (.d .bool) .unit)))))
abbrev FrontD:=ScanD×List ReqD×AskD×Bool×L8×Bool×Unit
abbrev FO:=Option (FrontD×DenO [])
abbrev sigGo:OSpec:=⟨true,0,FrontO,118,[],[],λ_ _=>true,λx _=>(x,())⟩
def statS:OSpec:=niceO sig0 (λ_ _=>true) λx _=>(x,x.2.1,())
abbrev zRqF:ReqD:=(ReqT).dflt
def goStep (s:ScanD) (w:List ReqD) (a:AskD) (o:L8) (c:Bool) (nx:List ReqD->AskD->Bool->L8->FO):FO:=
 bif decide ((w.length:Int)>0) then gd [ofP ((w.getD 0 zRqF).1,(w.getD 0 zRqF).2.1,(w.getD 0 zRqF).2.2.1,(w.getD 0 zRqF).2.2.2.1,(w.getD 0 zRqF).2.2.2.2.1,()),decide ((1:Int)<=(w.length:Int)),decide (0<w.length),decide ((0:Int)<(w.length:Int))] (bif (ofN ((w.getD 0 zRqF).1,(w.getD 0 zRqF).2.1,(w.getD 0 zRqF).2.2.1,(w.getD 0 zRqF).2.2.2.1,(w.getD 0 zRqF).2.2.2.2.1,())).2 !=(0:Int) then
  (bif (w.getD 0 zRqF).1==[72,69,65,68] then
   gd [decide (o.length+(aputN ((ofN ((w.getD 0 zRqF).1,(w.getD 0 zRqF).2.1,(w.getD 0 zRqF).2.2.1,(w.getD 0 zRqF).2.2.2.1,(w.getD 0 zRqF).2.2.2.2.1,())).2,[],[],()) true).length<=1099511627776),aputP ((ofN ((w.getD 0 zRqF).1,(w.getD 0 zRqF).2.1,(w.getD 0 zRqF).2.2.1,(w.getD 0 zRqF).2.2.2.1,(w.getD 0 zRqF).2.2.2.2.1,())).2,[],[],())] (nx (w.drop 1) a false (o++aputN ((ofN ((w.getD 0 zRqF).1,(w.getD 0 zRqF).2.1,(w.getD 0 zRqF).2.2.1,(w.getD 0 zRqF).2.2.2.1,(w.getD 0 zRqF).2.2.2.2.1,())).2,[],[],()) true))
  else gd [decide (o.length+(aputN ((ofN ((w.getD 0 zRqF).1,(w.getD 0 zRqF).2.1,(w.getD 0 zRqF).2.2.1,(w.getD 0 zRqF).2.2.2.1,(w.getD 0 zRqF).2.2.2.2.1,())).2,[],[],()) false).length<=1099511627776),aputP ((ofN ((w.getD 0 zRqF).1,(w.getD 0 zRqF).2.1,(w.getD 0 zRqF).2.2.1,(w.getD 0 zRqF).2.2.2.1,(w.getD 0 zRqF).2.2.2.2.1,())).2,[],[],())] (nx (w.drop 1) a false (o++aputN ((ofN ((w.getD 0 zRqF).1,(w.getD 0 zRqF).2.1,(w.getD 0 zRqF).2.2.1,(w.getD 0 zRqF).2.2.2.1,(w.getD 0 zRqF).2.2.2.2.1,())).2,[],[],()) false)))
 else nx (w.drop 1) (ofN ((w.getD 0 zRqF).1,(w.getD 0 zRqF).2.1,(w.getD 0 zRqF).2.2.1,(w.getD 0 zRqF).2.2.2.1,(w.getD 0 zRqF).2.2.2.2.1,())).1 true o)
 else bif c then some ((s,w,a,false,o,true,()),()) else bif s.2.1 !=(0:Int) then gd [decide (o.length+(aputN (s.2.1,[],[],()) false).length<=1099511627776),aputP (s.2.1,[],[],())] (some ((s,w,a,false,o++aputN (s.2.1,[],[],()) false,true,()),()))
  else some ((s,w,a,false,o,false,()),())
def goN (s:ScanD) (c:Bool):List ReqD->AskD->L8->FrontD
 |[],a,o=>bif c then(s,[],a,false,o,true,()) else bif s.2.1 !=(0:Int) then(s,[],a,false,o++aputN (s.2.1,[],[],()) false,true,()) else(s,[],a,false,o,false,())
 |r::w,a,o=>bif (ofN r).2 !=(0:Int) then goN s c w a (o++aputN ((ofN r).2,[],[],()) (r.1==[72,69,65,68])) else(s,w,(ofN r).1,true,o,c,())
def goP (s:ScanD) (c:Bool):List ReqD->L8->Bool
 |[],o=>c||(s.2.1==0||(decide (o.length+(aputN (s.2.1,[],[],()) false).length<=1099511627776)&&aputP (s.2.1,[],[],())))
 |r::w,o=>ofP r&&bif (ofN r).2 !=(0:Int) then decide (o.length+(aputN ((ofN r).2,[],[],()) (r.1==[72,69,65,68])).length<=1099511627776)&&(aputP ((ofN r).2,[],[],())&&goP s c w (o++aputN ((ofN r).2,[],[],()) (r.1==[72,69,65,68]))) else true
def goF (x:FrontD):FrontD:=bif x.2.2.2.1 then x else goN x.1 x.2.2.2.2.2.1 x.2.1 x.2.2.1 x.2.2.2.2.1
def goFP (x:FrontD):Bool:=decide (x.2.1.length<=1000000)&&(x.2.2.2.1||goP x.1 x.2.2.2.2.2.1 x.2.1 x.2.2.2.2.1)
def goS:OSpec:=niceO sigGo (λx _=>goFP x) λx _=>(goF x,())
theorem go_l {s:ScanD} {c:Bool} {h:Nat->List ReqD->AskD->Bool->L8->FO} (he:∀N w a o,h (N+1) w a false o=goStep s w a o c (λw' a' k' o'=>h N w' a' k' o')) (ht:∀N w a o,h (N+1) w a true o=some ((s,w,a,true,o,c,()),())):
  ∀(w:List ReqD) (N:Nat) (a:AskD) (o:L8),goP s c w o=true->w.length+1<N->h N w a false o=some (goN s c w a o,()):=by
 intro w
 induction w with
 |nil=>
  intro N a o hp hN;obtain⟨N,rfl⟩:∃k,N=k+1:=⟨N-1,by omega⟩
  rw[he];unfold goStep goN;unfold goP at hp;rw[cdF (by show ¬((0:Nat):Int)>0;omega)]
  revert hp
  cases c
  ·rw[xF,xF];by_cases h0:s.2.1=0
   ·intro _;rw[show(s.2.1 !=(0:Int))=false from by rw[bne_eq_false_iff_eq];exact h0,xF,xF]
   ·intro hp;rw[show(s.2.1==0)=false from beq_eq_false_iff_ne.2 h0,Bool.false_or,Bool.false_or,Bool.and_eq_true] at hp;rw[show(s.2.1 !=(0:Int))=true from bne_iff_ne.2 h0,xT,xT,gdB hp.1,gdB hp.2,xG]
  ·intro _;rw[xT,xT]
 |cons r w ih=>
  intro N a o hp hN;obtain⟨N,rfl⟩:∃k,N=k+1:=⟨N-1,by omega⟩
  have hl:(r::w).length=w.length+1:=rfl;unfold goP at hp;rw[Bool.and_eq_true] at hp;obtain⟨p1,p2⟩:=hp;rw[he];unfold goStep goN;have er:(r::w).getD 0 zRqF=r:=rfl;have er2:((r.1,r.2.1,r.2.2.1,r.2.2.2.1,r.2.2.2.2.1,()):ReqD)=r:=rfl;have ed:(r::w).drop 1=w:=rfl;rw[cdT (by omega),er,er2,ed,gdB p1,gdT (by omega),gdT (by omega),gdT (by omega),xG]
  revert p2
  cases(ofN r).2 !=(0:Int)
  ·intro _;rw[xF,xF];obtain⟨N,rfl⟩:∃k,N=k+1:=⟨N-1,by omega⟩
   exact ht N _ _ _
  ·rw[xT,xT,xT];cases r.1==[72,69,65,68]
   ·intro p2;rw[Bool.and_eq_true,Bool.and_eq_true] at p2;rw[xF,gdB p2.1,gdB p2.2.1,xG];exact ih N a _ p2.2.2 (by omega)
   ·intro p2;rw[Bool.and_eq_true,Bool.and_eq_true] at p2;rw[xT,gdB p2.1,gdB p2.2.1,xG];exact ih N a _ p2.2.2 (by omega)
end Nice
namespace Go.Proofs.YtldllfocpadkeaaGreatDoor
open Go Go.Eng Nice
set_option maxRecDepth 1000000
def ostat (x:ScanD) (y:DenO []):Option (ScanD×DenO [.d (.int .i64)]):=fOO Tryz.prog (envO [] []) (shOf []) Tryz.f82 sig0 x y
theorem estat (st su li at':Int) (tx m p q:L8) (hs:List HeadD) (b:L8) (le:Int) (ou:List ReqD):ostat (st,su,li,at',tx,(m,p,q,hs,b,()),le,ou,()) ()=some ((st,su,li,at',tx,(m,p,q,hs,b,()),le,ou,()),su,()):=by kernel_rfl
abbrev shScan:List Sh1:=[.sym,.sym,.sym,.sym,.vec .byte 5,.sym,.sym,.sym,.vec HeadT 101,.sym,.sym,.vec ReqT 62]
abbrev shFront (k:Nat):List Sh1:=[.samep k,.vec ReqT 62,.sym,.sym,.sym,.sym,.sym,.sym,.sym,.sym,.sym,.sym,.sym,.sym,.sym]
abbrev shgo:List (Nat×List (Nat×Sh)):=[(0,[(0,.nest 0 shScan (shFront 3))])]
abbrev enGo:Eng.Env:=envO [(47,ofS),(40,aputS)] [(82,statS)]
abbrev objsF (s:ScanD) (w:List ReqD) (a:AskD) (k:Bool) (o:L8) (c:Bool):List AO:=[.vec .byte s.2.2.2.2.1 5,.vec HeadT s.2.2.2.2.2.1.2.2.2.1 101,.vec ReqT s.2.2.2.2.2.2.2.1 62,.row [sy (.int .i64 s.1),sy (.int .i64 s.2.1),sy (.int .i64 s.2.2.1),sy (.int .i64 s.2.2.2.1),dt 10,sy (.string (bs s.2.2.2.2.2.1.1)),sy (.string (bs s.2.2.2.2.2.1.2.1)),sy (.string (bs s.2.2.2.2.2.1.2.2.1)),dt 11,sy (.string (bs s.2.2.2.2.2.1.2.2.2.2.1)),sy (.int .i64 s.2.2.2.2.2.2.1),dt 12] 165 false,.vec ReqT w 62,.row [.pointer (some ⟨13,0,none⟩),dt 14,sy (.int .i64 a.1),sy (.string (bs a.2.1)),sy (.int .i64 a.2.2.1),sy (.string (bs a.2.2.2.1)),sy (.int .i64 a.2.2.2.2.1),sy (.string (bs a.2.2.2.2.2.1)),sy (.string (bs a.2.2.2.2.2.2.1)),sy (.string (bs a.2.2.2.2.2.2.2.1)),sy (.int .i64 a.2.2.2.2.2.2.2.2.1),.bool a.2.2.2.2.2.2.2.2.2.1,.bool k,sy (.string (bs o)),.bool c] 118 false]
def hgo (N:Nat) (s:ScanD) (c:Bool) (w:List ReqD) (a:AskD) (k:Bool) (o:L8):FO:=rHO Tryz.prog enGo (shOf shgo) Tryz.f72 sigGo [15] N 0 [(0,.pointer (some ⟨15,0,none⟩))] (objsF s w a k o c)
def ogo (x:FrontD) (y:DenO []):FO:=fOO Tryz.prog enGo (shOf shgo) Tryz.f72 sigGo x y
theorem ogo_g (x:FrontD) (y:DenO []):ogo x y=fOON Tryz.prog enGo (shOf shgo) Tryz.f72 sigGo heads0 x y:=rfl
theorem ego_g (N:Nat) (st su li at':Int) (tx m p q:L8) (hs:List HeadD) (b:L8) (le:Int) (ou w:List ReqD) (kd:Int) (key:L8) (v:Int) (bo:L8) (co:Int) (t p2 f:L8) (mx:Int) (ba k:Bool) (o:L8) (c:Bool):
 fOON Tryz.prog enGo (shOf shgo) Tryz.f72 sigGo N ((st,su,li,at',tx,(m,p,q,hs,b,()),le,ou,()),w,(kd,key,v,bo,co,t,p2,f,mx,ba,()),k,o,c,()) ()=hgo N (st,su,li,at',tx,(m,p,q,hs,b,()),le,ou,()) c w (kd,key,v,bo,co,t,p2,f,mx,ba,()) k o:=by kernel_rfl
theorem ego_T (N:Nat) (s:ScanD) (c:Bool) (w:List ReqD) (a:AskD) (o:L8):hgo (N+1) s c w a true o=some ((s,w,a,true,o,c,()),()):=by kernel_rfl
theorem ego_FT (N:Nat) (s:ScanD) (w:List ReqD) (a:AskD) (o:L8):hgo (N+1) s true w a false o=goStep s w a o true (λw' a' k' o'=>hgo N s true w' a' k' o'):=by kernel_rfl
theorem ego_FF (N:Nat) (s:ScanD) (w:List ReqD) (a:AskD) (o:L8):hgo (N+1) s false w a false o=goStep s w a o false (λw' a' k' o'=>hgo N s false w' a' k' o'):=by kernel_rfl
open Go Go.Eng Nice
set_option maxRecDepth 1000000
theorem stat_c:OC 82 statS:=(objO (S:=sig0) (sh:=shOf []) (envO_ok (l:=[]) (o:=[]) trivial trivial) gl_ne Tryz.func82 (by kernel_rfl) (by decide)).nice λ⟨st,su,li,at',tx,⟨m,p,q,hs,b,()⟩,le,ou,()⟩ () _=>estat st su li at' tx m p q hs b le ou
theorem go_n {x:FrontD} (h:goFP x=true):ogo x ()=some (goF x,()):=by
 obtain⟨⟨st,su,li,at',tx,⟨m,p,q,hs,b,⟨⟩⟩,le,ou,⟨⟩⟩,w,⟨kd,key,v,bo,co,t,p2,f,mx,ba,⟨⟩⟩,k,o,c,⟨⟩⟩:=x;unfold goFP at h;rw[Bool.and_eq_true,decide_eq_true_eq] at h;obtain⟨h1,h2⟩:=h;have h1:w.length<=1000000:=h1;rw[ogo_g,ego_g];unfold goF;cases k
 ·have h2:goP (st,su,li,at',tx,(m,p,q,hs,b,()),le,ou,()) c w o=true:=h2;refine go_l (c:=c) (h:=λN w a k o=>hgo N (st,su,li,at',tx,(m,p,q,hs,b,()),le,ou,()) c w a k o) (λN w a o=> ?_) (λN w a o=>ego_T N _ c w a o) w heads0 _ o h2 (Nat.lt_of_le_of_lt (Nat.add_le_add_right h1 1) (by unfold heads0;omega))
  cases c
  ·exact ego_FF N _ w a o
  ·exact ego_FT N _ w a o
 ·exact ego_T _ _ c w _ o
theorem go_c:OC 72 goS:=(objO (S:=sigGo) (sh:=shOf shgo) (envO_ok (l:=[(47,ofS),(40,aputS)]) (o:=[(82,statS)]) ⟨aOfG_c,aput_c,trivial⟩ ⟨stat_c,trivial⟩) gl_ne Tryz.func72 (by kernel_rfl) (by decide)).nice λx () h=>go_n h
end Go.Proofs.YtldllfocpadkeaaGreatDoor
namespace Nice
open Go Go.Eng
abbrev sgF:OSpec:=⟨true,0,FrontO,118,[.d .str],[],λ_ _=>true,λx _=>(x,())⟩
abbrev sgA:OSpec:=⟨true,0,FrontO,118,[],[.d AskT,.d .bool],λ_ _=>true,λx _=>(x,AskT.dflt,false,())⟩
abbrev sgB:OSpec:=⟨true,0,FrontO,118,[],[.d .bool],λ_ _=>true,λx _=>(x,false,())⟩
abbrev sgO:OSpec:=⟨true,0,FrontO,118,[],[.d .str],λ_ _=>true,λx _=>(x,[],())⟩
abbrev sgD:OSpec:=⟨true,0,FrontO,118,[.d AnsT],[.d .bool],λ_ _=>true,λx _=>(x,false,())⟩
def askZ:AskD:=(0,[],0,[],0,[],[],[],0,false,())
def asksS:OSpec:=niceO sgA (λ_ _=>true) λx _=>(x,bif x.2.2.2.1 then x.2.2.1 else askZ,x.2.2.2.1,())
def closedS:OSpec:=niceO sgB (λ_ _=>true) λx _=>(x,x.2.2.2.2.2.1,())
def foutS:OSpec:=niceO sgO (λ_ _=>true) λx _=>((x.1,x.2.1,x.2.2.1,x.2.2.2.1,[],x.2.2.2.2.2.1,()),x.2.2.2.2.1,())
def ansF (x:FrontD) (n:AnsD):FrontD:=(x.1,x.2.1,askZ,false,x.2.2.2.2.1++aputN n x.2.2.1.2.2.2.2.2.2.2.2.2.1,x.2.2.2.2.2.1,())
end Nice
namespace Go.Proofs.YtldllfocpadkeaaGreatDoor
open Go Go.Eng Nice
set_option maxRecDepth 1000000
def fedF (x:FrontD) (b:L8):FrontD:=((feedN x.1 (b,())).1,x.2.1++(feedN x.1 (b,())).2.1,x.2.2.1,x.2.2.2.1,x.2.2.2.2.1,x.2.2.2.2.2.1,())
def ffeedF (x:FrontD) (b:L8):FrontD:=bif x.2.2.2.2.2.1 then x else goF (fedF x b)
def ffeedP (x:FrontD) (b:L8):Bool:=x.2.2.2.2.2.1||(feedP x.1 (b,())&&(decide ((2*(x.2.1.length+(feedN x.1 (b,())).2.1.length)+400)*88<=281474976710656)&&goFP (fedF x b)))
def ffeedS:OSpec:=niceO sgF (λx y=>ffeedP x y.1) λx y=>(ffeedF x y.1,())
def oasks (x:FrontD) (y:DenO []):Option (FrontD×DenO [.d AskT,.d .bool]):=fOO Tryz.prog (envO [] []) (shOf []) Tryz.f34 sgA x y
theorem easksT (s:ScanD) (w:List ReqD) (a:AskD) (o:L8) (c:Bool):oasks (s,w,a,true,o,c,()) ()=some ((s,w,a,true,o,c,()),a,true,()):=by kernel_rfl
theorem easksF (s:ScanD) (w:List ReqD) (a:AskD) (o:L8) (c:Bool):oasks (s,w,a,false,o,c,()) ()=some ((s,w,a,false,o,c,()),askZ,false,()):=by kernel_rfl
theorem asks_c:OC 34 asksS:=(objO (S:=sgA) (sh:=shOf []) (envO_ok (l:=[]) (o:=[]) trivial trivial) gl_ne Tryz.func34 (by kernel_rfl) (by decide)).nice λ⟨s,w,a,k,o,c,()⟩ () _=>by
 cases k
 ·exact easksF s w a o c
 ·exact easksT s w a o c
def oclosed (x:FrontD) (y:DenO []):Option (FrontD×DenO [.d .bool]):=fOO Tryz.prog (envO [] []) (shOf []) Tryz.f35 sgB x y
theorem eclosed (s:ScanD) (w:List ReqD) (a:AskD) (k:Bool) (o:L8) (c:Bool):oclosed (s,w,a,k,o,c,()) ()=bif c then some ((s,w,a,k,o,c,()),true,()) else some ((s,w,a,k,o,c,()),false,()):=by kernel_rfl
theorem closed_c:OC 35 closedS:=(objO (S:=sgB) (sh:=shOf []) (envO_ok (l:=[]) (o:=[]) trivial trivial) gl_ne Tryz.func35 (by kernel_rfl) (by decide)).nice λ⟨s,w,a,k,o,c,()⟩ () _=>(eclosed s w a k o c).trans (by cases c<;>rfl)
def ofout (x:FrontD) (y:DenO []):Option (FrontD×DenO [.d .str]):=fOO Tryz.prog (envO [] []) (shOf []) Tryz.f39 sgO x y
theorem efout (s:ScanD) (w:List ReqD) (a:AskD) (k:Bool) (o:L8) (c:Bool):ofout (s,w,a,k,o,c,()) ()=some ((s,w,a,k,[],c,()),o,()):=by kernel_rfl
theorem fout_c:OC 39 foutS:=(objO (S:=sgO) (sh:=shOf []) (envO_ok (l:=[]) (o:=[]) trivial trivial) gl_ne Tryz.func39 (by kernel_rfl) (by decide)).nice λ⟨s,w,a,k,o,c,()⟩ () _=>efout s w a k o c
def offeed (x:FrontD) (y:DenO [.d .str]):Option (FrontD×DenO []):=fOO Tryz.prog (envO [] [(71,feedS),(72,goS)]) (shOf []) Tryz.f31 sgF x y
theorem effeedT (s:ScanD) (w:List ReqD) (a:AskD) (k:Bool) (o b:L8):offeed (s,w,a,k,o,true,()) (b,())=some ((s,w,a,k,o,true,()),()):=by kernel_rfl
theorem effeedF (s:ScanD) (w:List ReqD) (a:AskD) (k:Bool) (o b:L8):offeed (s,w,a,k,o,false,()) (b,())=gd [goFP (fedF (s,w,a,k,o,false,()) b),decide ((2*(w.length+(feedN s (b,())).2.1.length)+400)*88<=281474976710656),feedP s (b,())] (some (goF (fedF (s,w,a,k,o,false,()) b),())):=by kernel_rfl
theorem ffeed_c:OC 31 ffeedS:=(objO (S:=sgF) (sh:=shOf []) (envO_ok (l:=[]) (o:=[(71,feedS),(72,goS)]) trivial ⟨feed_c,go_c,trivial⟩) gl_ne Tryz.func31 (by kernel_rfl) (by decide)).nice λ⟨s,w,a,k,o,c,()⟩ ⟨b,()⟩ h=>by
 have h:ffeedP (s,w,a,k,o,c,()) b=true:=h;unfold ffeedP at h
 revert h
 cases c
 ·intro h;rw[show((s,w,a,k,o,false,()):FrontD).2.2.2.2.2.1=false from rfl,Bool.false_or,Bool.and_eq_true,Bool.and_eq_true] at h;refine(effeedF s w a k o b).trans ?_;rw[gdB h.2.2,gdB h.2.1,gdB h.1,xG];rfl
 ·intro _;exact effeedT s w a k o b
open Go Go.Eng Nice
set_option maxRecDepth 1000000
abbrev enDone:Eng.Env:=envO [(26,amayAS),(40,aputS)] [(72,goS)]
def odone (x:FrontD) (y:DenO [.d AnsT]):Option (FrontD×DenO [.d .bool]):=fOO Tryz.prog enDone (shOf []) Tryz.f38 sgD x y
theorem edoneF (s:ScanD) (w:List ReqD) (a:AskD) (o:L8) (c:Bool) (n:Int) (hs:List HeadD) (b:L8):odone (s,w,a,false,o,c,()) ((n,hs,b,()),())=some ((s,w,a,false,o,c,()),false,()):=by kernel_rfl
def doneE (x:FrontD) (n:AnsD):Option (FrontD×DenO [.d .bool]):=
 bif amayB n then gd [aputP n] (bif x.2.2.1.2.2.2.2.2.2.2.2.2.1 then gd [goFP (x.1,x.2.1,askZ,false,x.2.2.2.2.1++aputN n true,x.2.2.2.2.2.1,()),decide (x.2.2.2.2.1.length+(aputN n true).length<=1099511627776),aputP n] (some (goF (x.1,x.2.1,askZ,false,x.2.2.2.2.1++aputN n true,x.2.2.2.2.2.1,()),true,()))
  else gd [goFP (x.1,x.2.1,askZ,false,x.2.2.2.2.1++aputN n false,x.2.2.2.2.2.1,()),decide (x.2.2.2.2.1.length+(aputN n false).length<=1099511627776),aputP n] (some (goF (x.1,x.2.1,askZ,false,x.2.2.2.2.1++aputN n false,x.2.2.2.2.2.1,()),true,())))
 else gd [aputP n] (some (x,false,()))
theorem edoneT (s:ScanD) (w:List ReqD) (a:AskD) (o:L8) (c:Bool) (n:Int) (hs:List HeadD) (b:L8):odone (s,w,a,true,o,c,()) ((n,hs,b,()),())=doneE (s,w,a,true,o,c,()) (n,hs,b,()):=by kernel_rfl
def doneP (x:FrontD) (n:AnsD):Bool:= !x.2.2.2.1||(aputP n&&(!amayB n||(decide (x.2.2.2.2.1.length+(aputN n x.2.2.1.2.2.2.2.2.2.2.2.2.1).length<=1099511627776)&&goFP (ansF x n))))
def doneF (x:FrontD) (n:AnsD):FrontD×Bool:=bif x.2.2.2.1&&amayB n then(goF (ansF x n),true) else(x,false)
def doneS:OSpec:=niceO sgD (λx y=>doneP x y.1) λx y=>((doneF x y.1).1,(doneF x y.1).2,())
theorem done_c:OC 38 doneS:=(objO (S:=sgD) (sh:=shOf []) (envO_ok (l:=[(26,amayAS),(40,aputS)]) (o:=[(72,goS)]) ⟨amay_cW,aput_c,trivial⟩ ⟨go_c,trivial⟩) gl_ne Tryz.func38 (by kernel_rfl) (by decide)).nice λ⟨s,w,⟨kd,key,v,bo,co,t,p,f,mx,ba,()⟩,k,o,c,()⟩ ⟨⟨n,hs,b,()⟩,()⟩ h=>by
 have h:doneP (s,w,(kd,key,v,bo,co,t,p,f,mx,ba,()),k,o,c,()) (n,hs,b,())=true:=h;unfold doneP at h;show _=some ((doneF _ _).1,(doneF _ _).2,());unfold doneF
 revert h
 cases k
 ·intro _;exact edoneF s w _ o c n hs b
 ·intro h;refine(edoneT s w _ o c n hs b).trans ?_;unfold doneE;have h:(aputP (n,hs,b,())&&(!amayB (n,hs,b,())||(decide (o.length+(aputN (n,hs,b,()) ba).length<=1099511627776)&&goFP (ansF (s,w,(kd,key,v,bo,co,t,p,f,mx,ba,()),true,o,c,()) (n,hs,b,())))))=true:=h;rw[Bool.and_eq_true] at h
  revert h
  cases amayB (n,hs,b,())
  ·intro h;rw[xF,gdB h.1,xG];rfl
  ·intro h;have h2:(decide (o.length+(aputN (n,hs,b,()) ba).length<=1099511627776)&&goFP (ansF (s,w,(kd,key,v,bo,co,t,p,f,mx,ba,()),true,o,c,()) (n,hs,b,())))=true:=h.2;rw[Bool.and_eq_true] at h2
   revert h2
   cases ba
   ·intro h2;rw[xT,gdB h.1,xG];show(bif false then _ else _)=_;rw[xF];exact(gdB h2.2 ..).trans ((gdB h2.1 ..).trans ((gdB h.1 ..).trans rfl))
   ·intro h2;rw[xT,gdB h.1,xG];show(bif true then _ else _)=_;rw[xT];exact(gdB h2.2 ..).trans ((gdB h2.1 ..).trans ((gdB h.1 ..).trans rfl))
open Go Go.Eng Nice
set_option maxRecDepth 1000000
abbrev sgN:OSpec:=⟨false,0,.unit,0,[],[.ptr FrontO 118],λ_ _=>true,λx _=>(x,FrontO.dflt,())⟩
def scanZ:ScanD:=(0,0,0,0,[],([],[],[],[],[],()),0,[],())
def frontZ:FrontD:=(scanZ,[],askZ,false,[],false,())
def onew (x:Unit) (y:DenO []):Option (Unit×DenO [.ptr FrontO 118]):=fOO Tryz.prog (envO [] []) (shOf []) Tryz.f30 sgN x y
theorem enew:onew () ()=some ((),frontZ,()):=by kernel_rfl
def newS:OSpec:=niceO sgN (λ_ _=>true) λx _=>(x,frontZ,())
theorem new_c:OC 30 newS:=(objO (S:=sgN) (sh:=shOf []) (envO_ok (l:=[]) (o:=[]) trivial trivial) gl_ne Tryz.func30 (by kernel_rfl) (by decide)).nice λ() () _=>enew
end Go.Proofs.YtldllfocpadkeaaGreatDoor
set_option maxRecDepth 100000
namespace Nice
open Go Go.Eng
abbrev mX (t:L8):ScanD:=mrun (initX []) t
theorem aputP0 (n:Int) (b:L8):aputP (n,[],b,())=true:=by
 show(decide ((0:Nat)<=140737488355328)&&true)=true;rw[decide_eq_true (Nat.zero_le _)];rfl
abbrev bareR (r:ReqD):Bool:=r.1==[72,69,65,68]
theorem goN_bad {s:ScanD} {c:Bool} {r:ReqD} {w:List ReqD} {a:AskD} {o:L8} (h:(ofN r).2≠0):goN s c (r::w) a o=goN s c w a (o++aputN ((ofN r).2,[],[],()) (bareR r)):=by
 rw[goN,show((ofN r).2 !=(0:Int))=true from bne_iff_ne.2 h,xT]
theorem goN_good {s:ScanD} {c:Bool} {r:ReqD} {w:List ReqD} {a:AskD} {o:L8} (h:(ofN r).2=0):goN s c (r::w) a o=(s,w,(ofN r).1,true,o,c,()):=by
 rw[goN,show((ofN r).2 !=(0:Int))=false from by rw[bne_eq_false_iff_eq];exact h,xF]
theorem goN_nil0 {s:ScanD} {a:AskD} {o:L8} (h:s.2.1=0):goN s false [] a o=(s,[],a,false,o,false,()):=by
 rw[goN,xF,show(s.2.1 !=(0:Int))=false from by rw[bne_eq_false_iff_eq];exact h,xF]
theorem goN_nil1 {s:ScanD} {a:AskD} {o:L8} (h:s.2.1≠0):goN s false [] a o=(s,[],a,false,o++aputN (s.2.1,[],[],()) false,true,()):=by
 rw[goN,xF,show(s.2.1 !=(0:Int))=true from bne_iff_ne.2 h,xT]
theorem goN_app {s s':ScanD} (M:List ReqD):∀(L:List ReqD) (a:AskD) (o:L8),(goN s false L a o).2.2.2.2.2.1=false->
  goN s' false (L++M) a o=bif (goN s false L a o).2.2.2.1 then(s',(goN s false L a o).2.1++M,(goN s false L a o).2.2.1,true,(goN s false L a o).2.2.2.2.1,false,()) else goN s' false ((goN s false L a o).2.1++M) (goN s false L a o).2.2.1 (goN s false L a o).2.2.2.2.1
 |[],a,o,h=>by
  by_cases h0:s.2.1=0
  ·rw[goN_nil0 h0];rfl
  ·rw[goN_nil1 h0] at h;cases h
 |r::w,a,o,h=>by
  show goN s' false (r::(w++M)) a o=_;by_cases h0:(ofN r).2=0
  ·rw[goN_good h0,goN_good h0];rfl
  ·rw[goN_bad h0] at h⊢;rw[goN_bad h0];exact goN_app M w a _ h
theorem goN_len {s:ScanD} {c:Bool}:∀(L:List ReqD) (a:AskD) (o:L8),(goN s c L a o).2.2.2.2.1.length+30000*(goN s c L a o).2.1.length<=o.length+30000*(L.length+1)/\(goN s c L a o).2.1.length<=L.length/\∀r,r∈(goN s c L a o).2.1->r∈L
 |[],a,o=>by
  have hl:(aputN (s.2.1,[],[],()) false).length<=30000:=aput_len false;unfold goN;cases c
  ·rw[xF];cases s.2.1 !=(0:Int)
   ·rw[xF];exact⟨by show o.length+30000*0<=_;simp only[List.length_nil];omega,Nat.le_refl _,λr h=>h⟩
   ·rw[xT];exact⟨by show(o++aputN (s.2.1,[],[],()) false).length+30000*0<=_;simp only[List.length_nil,List.length_append];omega,Nat.le_refl _,λr h=>h⟩
  ·rw[xT];exact⟨by show o.length+30000*0<=_;simp only[List.length_nil];omega,Nat.le_refl _,λr h=>h⟩
 |r::w,a,o=>by
  by_cases h0:(ofN r).2=0
  ·rw[goN_good h0];refine⟨?_,?_,λx h=>List.mem_cons_of_mem _ h⟩
   ·show o.length+30000*w.length<=_;simp only[List.length_cons];omega
   ·show w.length<=_;simp only[List.length_cons];omega
  ·rw[goN_bad h0];have hl:(aputN ((ofN r).2,[],[],()) (bareR r)).length<=30000:=aput_len _;obtain⟨h1,h2,h3⟩:=goN_len (s:=s) (c:=c) w a (o++aputN ((ofN r).2,[],[],()) (bareR r));rw[List.length_append] at h1;refine⟨?_,?_,λx h=>List.mem_cons_of_mem _ (h3 x h)⟩
   ·simp only[List.length_cons];omega
   ·simp only[List.length_cons];omega
theorem goP_okB {s:ScanD} {c:Bool} {B:Nat} (hB:∀k,k<=B->decide (k<=1099511627776)=true) (L:List ReqD):∀(o:L8),(∀r,r∈L->ofP r=true)->o.length+30000*(L.length+1)<=B->goP s c L o=true:=by
 induction L with
 |nil=>
  intro o _ h;have hl:(aputN (s.2.1,[],[],()) false).length<=30000:=aput_len false;rw[List.length_nil] at h;rw[goP,hB _ (by omega),aputP0];cases c<;>cases s.2.1==0<;>rfl
 |cons r w ih=>
  intro o hr h;have hl:(aputN ((ofN r).2,[],[],()) (r.1==[72,69,65,68])).length<=30000:=aput_len _;rw[List.length_cons] at h;rw[goP,hr r (List.mem_cons_self ..),aputP0];generalize aputN ((ofN r).2,[],[],()) (r.1==[72,69,65,68])=z at hl⊢;have e:(o++z).length=o.length+z.length:=List.length_append;have h1:o.length+z.length<=B:=by omega
  have h2:(o++z).length+30000*(w.length+1)<=B:=by omega
  rw[hB _ h1,ih (o++z) (λx hx=>hr x (List.mem_cons_of_mem _ hx)) h2];cases(ofN r).2 !=(0:Int)<;>rfl
theorem goP_ok {s:ScanD} {c:Bool} (L:List ReqD) (o:L8) (hr:∀r,r∈L->ofP r=true) (h:o.length+30000*(L.length+1)<=1099511627776):goP s c L o=true:=
 goP_okB (λ_ hk=>decide_eq_true hk) L o hr h
theorem goFP_ok {x:FrontD} (hr:∀r,r∈x.2.1->ofP r=true) (h:x.2.2.2.2.1.length+30000*(x.2.1.length+1)<=1099511627776) (hw:x.2.1.length<=1000000):goFP x=true:=by
 unfold goFP;rw[decide_eq_true hw,goP_ok _ _ hr h,Bool.or_true];rfl
def FInv (t:L8) (x:FrontD):Prop:=∃s:ScanD,x=goN s false (outX (mX t)) askZ []/\s.2.1=(mX t).2.1/\(x.2.2.2.2.2.1=false->s=clX (mX t))
theorem out_len (t:L8):(outX (mX t)).length<=t.length:=by
 have:=mrun_out t (initX []);have e:(outX (initX [])).length=0:=rfl;show(outX (mrun (initX []) t)).length<=_;omega
end Nice
namespace Go.Proofs.YtldllfocpadkeaaGreatDoor
open Go Go.Eng Nice
theorem FInv0:FInv [] frontZ:=⟨initX [],rfl,rfl,λ_=>rfl⟩
theorem out_ofP {t:L8} (h:t.length<=100000):∀r,r∈outX (mX t)->ofP r=true:=λr hr=>by
 rw[(scan_outs t).2.1] at hr;exact ofP_sm (scan_sm t.length _ t r hr (Nat.le_refl _)) (scan_len _ t r hr) (by omega)
theorem feed_at (t b:L8) (h:(t++b).length<=100000):feedP (clX (mX t)) (b,())=true/\feedN (clX (mX t)) (b,())=(clX (mrun (clX (mX t)) b),outX (mrun (clX (mX t)) b),()):=by
 rw[List.length_append] at h;have hi:(clX (mX t)).2.1=0->InvX t.length (clX (mX t)):=λh0=>by
  have i:InvX (0+t.length) (mX t):=inv_run t 0 (initX []) (λ_=>inv_init []) h0;rw[Nat.zero_add] at i
  revert i
  generalize mX t=z;obtain⟨st,su,li,at',tx,rq,le,ou,⟨⟩⟩:=z;intro i;exact i.out
 exact feed_hid ((feedS_n (clX (mX t)) b t.length (by omega) hi).trans (congrArg some (clrX_eq _)))
theorem feed_inv {t b:L8} {x:FrontD} (h:FInv t x) (hl:(t++b).length<=100000):ffeedP x b=true/\FInv (t++b) (ffeedF x b):=by
 obtain⟨s,hx,hs,hc⟩:=h;have hl2:=hl;rw[List.length_append] at hl2;unfold ffeedP ffeedF;cases hk:x.2.2.2.2.2.1
 ·have hs':=hc hk;subst hs';obtain⟨f1,f2⟩:=feed_at t b hl;obtain⟨m1,m2⟩:=mrun_two (initX []) t b;have hx1:x.1=clX (mX t):=by
   have:∀(L:List ReqD) (s:ScanD) (c:Bool) (a:AskD) (o:L8),(goN s c L a o).1=s:=by
    intro L
    induction L with
    |nil=>intro s c a o;unfold goN;cases c<;>cases s.2.1 !=(0:Int)<;>rfl
    |cons r w ih=>
     intro s c a o;by_cases h0:(ofN r).2=0
     ·rw[goN_good h0]
     ·rw[goN_bad h0];exact ih ..
   rw[hx];exact this ..
  have hfed:fedF x b=(clX (mX (t++b)),x.2.1++outX (mrun (clX (mX t)) b),x.2.2.1,x.2.2.2.1,x.2.2.2.2.1,false,()):=by
   unfold fedF;rw[hx1,f2,hk,m1]
  obtain⟨g1,g2,g3⟩:=goN_len (s:=clX (mX t)) (c:=false) (outX (mX t)) askZ [];rw[<-hx] at g1 g2 g3;have o1:=out_len t;have m2:outX (mX (t++b))=outX (mX t)++outX (mrun (clX (mX t)) b):=m2;have o2:=out_len (t++b);rw[m2,List.length_append,List.length_append] at o2;have e0:([]:L8).length=0:=rfl;rw[e0] at g1
  have hP:goFP (fedF x b)=true:=by
   rw[hfed];refine goFP_ok (λr hr=> ?_) ?_ ?_
   ·have hr:r∈x.2.1++outX (mrun (clX (mX t)) b):=hr;refine out_ofP hl r ?_;rw[m2];rcases List.mem_append.1 hr with hr|hr
    ·exact List.mem_append_left _ (g3 r hr)
    ·exact List.mem_append_right _ hr
   ·show x.2.2.2.2.1.length+30000*((x.2.1++outX (mrun (clX (mX t)) b)).length+1)<=1099511627776;have e3:(x.2.1++outX (mrun (clX (mX t)) b)).length=x.2.1.length+(outX (mrun (clX (mX t)) b)).length:=List.length_append;have e1:(outX (mX t)).length<=100000:=by omega
    have e2:(outX (mrun (clX (mX t)) b)).length<=100000:=by omega
    omega
   ·show(x.2.1++outX (mrun (clX (mX t)) b)).length<=1000000;rw[List.length_append];omega
  refine⟨?_,clX (mX (t++b)),?_,rfl,λ_=>rfl⟩
  ·rw[Bool.false_or,hx1,f1,hP,f2,decide_eq_true (by
    show(2*(x.2.1.length+(outX (mrun (clX (mX t)) b)).length)+400)*88<=281474976710656;omega)]
   rfl
  ·rw[xF,hfed,m2];have ha:=goN_app (s:=clX (mX t)) (s':=clX (mX (t++b))) (outX (mrun (clX (mX t)) b)) (outX (mX t)) askZ [] (by rw[<-hx];exact hk);rw[<-hx] at ha;rw[ha];unfold goF;cases x.2.2.2.1<;>rfl
 ·rw[xT];refine⟨rfl,?_⟩;have hn:s.2.1≠0:=λh0=>by
   have:∀(L:List ReqD) (o:L8),(goN s false L askZ o).2.2.2.2.2.1=false:=by
    intro L
    induction L with
    |nil=>intro o;rw[goN_nil0 h0]
    |cons r w ih=>
     intro o;by_cases h1:(ofN r).2=0
     ·rw[goN_good h1]
     ·rw[goN_bad h1];exact ih ..
   rw[hx,this] at hk;cases hk
  have e:mX (t++b)=mX t:=by
   show mrun (initX []) (t++b)=_;rw[mrun_app];exact mrun_bad _ _ (by rw[<-hs];exact hn)
  exact⟨s,by rw[e];exact hx,by rw[e];exact hs,λh0=>by rw[h0] at hk;cases hk⟩
theorem done_ok {s:ScanD} {r:ReqD} {w:List ReqD} {o:L8} {n:AnsD} (h0:(ofN r).2=0) (hn:amayB n=true) (hp:aputP n=true) (hw:∀r,r∈w->ofP r=true) (hl:o.length+30000*(w.length+2)<=1099511627776) (hc:w.length<=1000000):
  doneP (goN s false (r::w) askZ o) n=true/\doneF (goN s false (r::w) askZ o) n=(goN s false w askZ (o++aputN n (ofN r).1.2.2.2.2.2.2.2.2.2.1),true):=by
 have hk:(aputN n (ofN r).1.2.2.2.2.2.2.2.2.2.1).length<=30000:=aput_len _;rw[goN_good h0];have hP:goFP (ansF (s,w,(ofN r).1,true,o,false,()) n)=true:=goFP_ok hw (by
  show(o++aputN n (ofN r).1.2.2.2.2.2.2.2.2.2.1).length+30000*(w.length+1)<=1099511627776;have e:(o++aputN n (ofN r).1.2.2.2.2.2.2.2.2.2.1).length=o.length+(aputN n (ofN r).1.2.2.2.2.2.2.2.2.2.1).length:=List.length_append;omega) hc
 unfold doneP doneF;rw[hP,hn,hp,decide_eq_true (show(((s,w,(ofN r).1,true,o,false,()):FrontD).2.2.2.2.1.length+(aputN n ((s,w,(ofN r).1,true,o,false,()):FrontD).2.2.1.2.2.2.2.2.2.2.2.2.1).length)<=1099511627776 by
  show o.length+(aputN n (ofN r).1.2.2.2.2.2.2.2.2.2.1).length<=_;omega)]
 exact⟨rfl,rfl⟩
theorem done_no {x:FrontD} {n:AnsD} (hn:amayB n=false) (hp:aputP n=true):doneP x n=true/\doneF x n=(x,false):=by
 unfold doneP doneF;rw[hn,hp,Bool.and_false,xF];refine⟨?_,rfl⟩;cases x.2.2.2.1<;>rfl
