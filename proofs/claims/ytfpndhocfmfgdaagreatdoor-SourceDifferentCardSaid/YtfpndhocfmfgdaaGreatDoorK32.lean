/- Part 32: lemmas for the last text. -/
import Derived.Test.YtfpndhocfmfgdaaGreatDoorK31
set_option linter.unusedVariables false
set_option linter.unusedSimpArgs false
section
set_option maxRecDepth 8000
namespace Go.AM
open Go
def uX(g:String->Nat):AFn:=⟨30,[],[.tmp 6],qS [qx 3 2 0,qx 4 2 1,qx 5 2 2,qmc 6 (.int .i64 0)]<|qS [qf 7 0 4,ql 8 1 7,qf 9 0 3,ql 10 1 9,qb 11 .sub 8 10,qf 12 1 5,ql 13 1 12,qf 14 1 3,ql 15 1 14,qb 16 .sub 13 15,qb 17 .mul 11 16,qf 18 1 4,ql 19 1 18,qf 20 1 3,ql 21 1 20,qb 22 .sub 19 21,qf 23 0 5,ql 24 1 23,qf 25 0 3,ql 26 1 25,qb 27 .sub 24 26,qb 28 .mul 22 27,qb 29 .sub 17 28,qm 6 29]<|.ret⟩
def aA1(g:String->Nat):AFn:=⟨6,[],[.tmp 2],qS [qmc 2 (.int .i64 0)]<|qS [qm 3 0,qq 4 (.mm true [(.const (.int .i64 (-1))),(.tmp 3)]),qq 5 (.mm false [(.const (.int .i64 1)),(.tmp 4)]),qm 2 5]<|.ret⟩
def aDB(g:String->Nat):AFn:=⟨60,[],[.tmp 4],qS [qx 2 2 0,qx 3 4 1,qmc 4 (.bool false)]<|qS [qf 5 0 3,qla 6 2 5,qf 7 2 3,qla 8 2 7,qla 9 2 2,qc 10 (g "dactyl/plane.turn") [u 6,u 8,u 9],qbi 11 .eql 10 0,qm 12 11,qT 13 12 (of 0 3),qT 14 12 (of 0 13),qT 15 12 (ol 1 14),qT 16 12 (of 2 3),qT 17 12 (of 0 16),qT 18 12 (ol 1 17),qT 19 12 (.mm false [(.tmp 15),(.tmp 18)]),qT 20 12 (of 0 2),qT 21 12 (ol 1 20),qT 22 12 (ob .leq 19 21),qp 23 12 22,qm 24 23,qT 25 24 (of 0 2),qT 26 24 (ol 1 25),qT 27 24 (of 0 3),qT 28 24 (of 0 27),qT 29 24 (ol 1 28),qT 30 24 (of 2 3),qT 31 24 (of 0 30),qT 32 24 (ol 1 31),qT 33 24 (.mm true [(.tmp 29),(.tmp 32)]),qT 34 24 (ob .leq 26 33),qp 35 24 34,qm 36 35,qT 37 36 (of 0 3),qT 38 36 (of 1 37),qT 39 36 (ol 1 38),qT 40 36 (of 2 3),qT 41 36 (of 1 40),qT 42 36 (ol 1 41),qT 43 36 (.mm false [(.tmp 39),(.tmp 42)]),qT 44 36 (of 1 2),qT 45 36 (ol 1 44),qT 46 36 (ob .leq 43 45),qp 47 36 46,qm 48 47,qT 49 48 (of 1 2),qT 50 48 (ol 1 49),qT 51 48 (of 0 3),qT 52 48 (of 1 51),qT 53 48 (ol 1 52),qT 54 48 (of 2 3),qT 55 48 (of 1 54),qT 56 48 (ol 1 55),qT 57 48 (.mm true [(.tmp 53),(.tmp 56)]),qT 58 48 (ob .leq 50 57),qp 59 48 58,qm 4 59]<|.ret⟩
abbrev aGW(g:String->Nat):List AOper:=[qf 27 0 2,⟨some 28,ola 2 27,none,[0]⟩,qf 29 2 2,⟨some 30,ola 2 29,none,[2]⟩,qf 31 0 3,⟨some 32,ola 2 31,none,[4]⟩,⟨some 33,oc (g "dactyl/plane.turn") [u 28,u 30,u 32],none,[1,0,3,2,5,4]⟩,⟨some 34,oc (g "dactyl/plane.sign") [u 33],none,[6,1,0,3,2,5,4]⟩,qf 35 0 2,⟨some 36,ola 2 35,none,[8]⟩,qf 37 2 2,⟨some 38,ola 2 37,none,[10]⟩,qf 39 2 3,⟨some 40,ola 2 39,none,[12]⟩,⟨some 41,oc (g "dactyl/plane.turn") [u 36,u 38,u 40],none,[9,8,11,10,13,12,7,6,1,0,3,2,5,4]⟩,⟨some 42,oc (g "dactyl/plane.sign") [u 41],none,[14,9,8,11,10,13,12,7,6,1,0,3,2,5,4]⟩,⟨some 43,ob .mul 34 42,none,[15,14,9,8,11,10,13,12,7,6,1,0,3,2,5,4]⟩,⟨some 44,obi .lss 43 0,none,[16,15,14,9,8,11,10,13,12,7,6,1,0,3,2,5,4]⟩,⟨some 45,om 44,none,[17,16,15,14,9,8,11,10,13,12,7,6,1,0,3,2,5,4]⟩,⟨some 46,of 0 3,some (some 45,true),[18,17,16,15,14,9,8,11,10,13,12,7,6,1,0,3,2,5,4]⟩,⟨some 47,ola 2 46,some (some 45,true),[19,18,17,16,15,14,9,8,11,10,13,12,7,6,1,0,3,2,5,4]⟩,⟨some 48,of 2 3,some (some 45,true),[18,17,16,15,14,9,8,11,10,13,12,7,6,1,0,3,2,5,4]⟩,⟨some 49,ola 2 48,some (some 45,true),[21,18,17,16,15,14,9,8,11,10,13,12,7,6,1,0,3,2,5,4]⟩,⟨some 50,of 0 2,some (some 45,true),[18,17,16,15,14,9,8,11,10,13,12,7,6,1,0,3,2,5,4]⟩,⟨some 51,ola 2 50,some (some 45,true),[23,18,17,16,15,14,9,8,11,10,13,12,7,6,1,0,3,2,5,4]⟩,⟨some 52,oc (g "dactyl/plane.turn") [u 47,u 49,u 51],some (some 45,true),[20,19,22,21,24,23,18,17,16,15,14,9,8,11,10,13,12,7,6,1,0,3,2,5,4]⟩,⟨some 53,oc (g "dactyl/plane.sign") [u 52],some (some 45,true),[25,20,19,22,21,24,23,18,17,16,15,14,9,8,11,10,13,12,7,6,1,0,3,2,5,4]⟩,⟨some 54,of 0 3,some (some 45,true),[18,17,16,15,14,9,8,11,10,13,12,7,6,1,0,3,2,5,4]⟩,⟨some 55,ola 2 54,some (some 45,true),[27,18,17,16,15,14,9,8,11,10,13,12,7,6,1,0,3,2,5,4]⟩,⟨some 56,of 2 3,some (some 45,true),[18,17,16,15,14,9,8,11,10,13,12,7,6,1,0,3,2,5,4]⟩,⟨some 57,ola 2 56,some (some 45,true),[29,18,17,16,15,14,9,8,11,10,13,12,7,6,1,0,3,2,5,4]⟩,⟨some 58,of 2 2,some (some 45,true),[18,17,16,15,14,9,8,11,10,13,12,7,6,1,0,3,2,5,4]⟩,⟨some 59,ola 2 58,some (some 45,true),[31,18,17,16,15,14,9,8,11,10,13,12,7,6,1,0,3,2,5,4]⟩,⟨some 60,oc (g "dactyl/plane.turn") [u 55,u 57,u 59],some (some 45,true),[28,27,30,29,32,31,26,25,20,19,22,21,24,23,18,17,16,15,14,9,8,11,10,13,12,7,6,1,0,3,2,5,4]⟩,⟨some 61,oc (g "dactyl/plane.sign") [u 60],some (some 45,true),[33,28,27,30,29,32,31,26,25,20,19,22,21,24,23,18,17,16,15,14,9,8,11,10,13,12,7,6,1,0,3,2,5,4]⟩,⟨some 62,ob .mul 53 61,some (some 45,true),[34,33,28,27,30,29,32,31,26,25,20,19,22,21,24,23,18,17,16,15,14,9,8,11,10,13,12,7,6,1,0,3,2,5,4]⟩,⟨some 63,obi .lss 62 0,some (some 45,true),[35,34,33,28,27,30,29,32,31,26,25,20,19,22,21,24,23,18,17,16,15,14,9,8,11,10,13,12,7,6,1,0,3,2,5,4]⟩,⟨some 64,op 45 63,none,[36,35,34,33,28,27,30,29,32,31,26,25,20,19,22,21,24,23,18,17,16,15,14,9,8,11,10,13,12,7,6,1,0,3,2,5,4]⟩,⟨some 4,om 64,none,[37,36,35,34,33,28,27,30,29,32,31,26,25,20,19,22,21,24,23,18,17,16,15,14,9,8,11,10,13,12,7,6,1,0,3,2,5,4]⟩]
abbrev wS:List Nat:=[6,7,9,11,13,25,26,28,30,32]
def aCv(g:String->Nat):AFn:=⟨65,[],[.tmp 4],qS [qx 2 4 0,qx 3 4 1,qmc 4 (.bool false)]<|.seq (qS [qf 5 0 2,qla 6 2 5,qla 7 4 3,qc 8 (g "dactyl/plane.on") [u 6,u 7],qm 9 8,qF 10 9 (of 2 2),qF 11 9 (ola 2 10),qF 12 9 (ola 4 3),qF 13 9 (oc (g "dactyl/plane.on") [u 11,u 12]),qq 14 (.pick (u 9) uT (u 13)),qm 15 14,qF 16 15 (of 0 3),qF 17 15 (ola 2 16),qF 18 15 (ola 4 2),qF 19 15 (oc (g "dactyl/plane.on") [u 17,u 18]),qq 20 (.pick (u 15) uT (u 19)),qm 21 20,qF 22 21 (of 2 3),qF 23 21 (ola 2 22),qF 24 21 (ola 4 2),qF 25 21 (oc (g "dactyl/plane.on") [u 23,u 24]),qq 26 (.pick (u 21) uT (u 25))]<|qC 26 (qS [qmc 4 (.bool true)]<|.ret) (.skip))<|.seq (.region true (aGW g))<|.ret⟩
abbrev P2(x y:Int):AV:=.agg [vi x,vi y]
abbrev S4(a b c d:Int):AV:=.agg [vi a,vi b,vi c,vi d]
section
variable {A:AProg}{g:String->Nat}
theorem aEG(h:Has A g "dactyl/plane.turn" (uX g))(a b c d e f:Int)(H:List AObj):∃n:Int,aL A (g "dactyl/plane.turn") [P2 a b,P2 c d,P2 e f] H=some (vi n,H,[]):=by
 obtain⟨v,H',wr,h1,rfl,rfl,n,rfl⟩:=h.callEx (args:=[P2 a b,P2 c d,P2 e f]) (H:=H) (K:=fun v H' wr=>wr=[]/\H'=H/\∃n:Int,v=vi n) (by simp[uX]) (by kernel_rfl) (by
  simp only[uX];simp only[go_sem,↓aC,seval,List.append_nil,List.drop_zero,List.take_succ_cons,List.take_zero,List.drop_succ_cons];exact⟨_,rfl⟩)
 exact⟨n,h1⟩
theorem aGX(h:Has A g "dactyl/plane.sign" (aA1 g))(n:Int)(H:List AObj):∃m:Int,aL A (g "dactyl/plane.sign") [vi n] H=some (vi m,H,[]):=by
 obtain⟨v,H',wr,h1,rfl,rfl,m,rfl⟩:=h.callEx (args:=[vi n]) (H:=H) (K:=fun v H' wr=>wr=[]/\H'=H/\∃n:Int,v=vi n) (by simp[aA1]) (by kernel_rfl) (by
  simp only[aA1];simp only[go_sem,↓aC,seval,List.append_nil];exact⟨_,rfl⟩)
 exact⟨m,h1⟩
theorem aIm(h:Has A g "dactyl/plane.on" (aDB g))(ht:Has A g "dactyl/plane.turn" (uX g))(p q a b c d:Int)(H:List AObj):∃r:Bool,aL A (g "dactyl/plane.on") [P2 p q,S4 a b c d] H=some (.bool r,H,[]):=by
 obtain⟨v,H',wr,h1,rfl,rfl,m,rfl⟩:=h.callEx (args:=[P2 p q,S4 a b c d]) (H:=H) (K:=fun v H' wr=>wr=[]/\H'=H/\∃r:Bool,v=.bool r) (by simp[aDB]) (by kernel_rfl) (by
  obtain⟨n,hn⟩:=aEG ht a b c d p q H;simp only[aDB];cases e1:(n==0)with
  |false=>
   simp only[go_sem,↓aC,seval,hn,e1,Bool.false_beq,List.append_nil,List.drop_zero,List.take_succ_cons,List.take_zero,List.drop_succ_cons];exact⟨_,rfl⟩
  |true=>
  simp only[go_sem,↓aC,seval,hn,e1,beq_self_eq_true,List.append_nil,List.drop_zero,List.take_succ_cons,List.take_zero,List.drop_succ_cons];refine aD (fun hb => ?_) (fun hb => ?_);rotate_left
  ·rw[beq_eq_false_iff_ne,ne_eq,Bool.not_eq_true]at hb;simp only[go_sem,↓aC,seval,hb,Bool.false_beq];exact⟨_,rfl⟩
  rw[beq_iff_eq]at hb;simp only[go_sem,↓aC,seval,hb,beq_self_eq_true,List.drop_zero,List.take_succ_cons,List.take_zero,List.drop_succ_cons];refine aD (fun hb => ?_) (fun hb => ?_);rotate_left
  ·rw[beq_eq_false_iff_ne,ne_eq,Bool.not_eq_true]at hb;simp only[go_sem,↓aC,seval,hb,Bool.false_beq];exact⟨_,rfl⟩
  rw[beq_iff_eq]at hb;simp only[go_sem,↓aC,seval,hb,beq_self_eq_true,List.drop_zero,List.take_succ_cons,List.take_zero,List.drop_succ_cons];refine aD (fun hb => ?_) (fun hb => ?_);rotate_left
  ·rw[beq_eq_false_iff_ne,ne_eq,Bool.not_eq_true]at hb;simp only[go_sem,↓aC,seval,hb,Bool.false_beq];exact⟨_,rfl⟩
  rw[beq_iff_eq]at hb;simp only[go_sem,↓aC,seval,hb,beq_self_eq_true,List.drop_zero,List.take_succ_cons,List.take_zero,List.drop_succ_cons];exact⟨_,rfl⟩)
 exact⟨m,h1⟩
structure PlaneFns(A:AProg)(g:String->Nat):Prop where
 yf:NoYF A
 turn:Has A g "dactyl/plane.turn" (uX g)
 sign:Has A g "dactyl/plane.sign" (aA1 g)
 on:Has A g "dactyl/plane.on" (aDB g)
 meet:Has A g "dactyl/plane.meet" (aCv g)
 seg:Has A g "dactyl/plane.segments" (nX g)
 seg1:Has A g "dactyl/plane.segments$1" (fY g)
 coll:Has A g "slices.Collect[dactyl/plane.segment]" (cC g)
 app:Has A g "slices.AppendSeq[[]dactyl/plane.segment,dactyl/plane.segment]" (bC g)
theorem aRJ(F:PlaneFns A g)(a b c d a' b' c' d':Int)(H:List AObj):∃r:Bool,aL A (g "dactyl/plane.meet") [S4 a b c d,S4 a' b' c' d'] H=some (.bool r,H,[]):=by
 obtain⟨v,H',wr,h1,rfl,rfl,m,rfl⟩:=F.meet.callEx (args:=[S4 a b c d,S4 a' b' c' d']) (H:=H) (K:=fun v H' wr=>wr=[]/\H'=H/\∃r:Bool,v=.bool r) (by simp[aCv]) (by kernel_rfl) (by
  obtain⟨r1,h1⟩:=aIm F.on F.turn a b a' b' c' d' H;obtain⟨r2,h2⟩:=aIm F.on F.turn c d a' b' c' d' H;obtain⟨r3,h3⟩:=aIm F.on F.turn a' b' a b c d H;obtain⟨r4,h4⟩:=aIm F.on F.turn c' d' a b c d H;obtain⟨n1,t1⟩:=aEG F.turn a b c d a' b' H;obtain⟨n2,t2⟩:=aEG F.turn a b c d c' d' H;obtain⟨n3,t3⟩:=aEG F.turn a' b' c' d' a b H;obtain⟨n4,t4⟩:=aEG F.turn a' b' c' d' c d H;obtain⟨s1,g1⟩:=aGX F.sign n1 H;obtain⟨s2,g2⟩:=aGX F.sign n2 H;obtain⟨s3,g3⟩:=aGX F.sign n3 H;obtain⟨s4,g4⟩:=aGX F.sign n4 H;simp only[aCv];cases r1 with
  |true=>
   simp only[go_sem,↓aC,seval,h1,Bool.true_beq,List.append_nil,List.drop_zero,List.take_succ_cons,List.take_zero];exact⟨_,rfl⟩
  |false=>
  cases r2 with
  |true=>
   simp only[go_sem,↓aC,seval,h1,h2,beq_self_eq_true,Bool.true_beq,List.append_nil,List.drop_zero,List.take_succ_cons,List.take_zero,List.drop_succ_cons];exact⟨_,rfl⟩
  |false=>
  cases r3 with
  |true=>
   simp only[go_sem,↓aC,seval,h1,h2,h3,beq_self_eq_true,Bool.true_beq,List.append_nil,List.drop_zero,List.take_succ_cons,List.take_zero,List.drop_succ_cons];exact⟨_,rfl⟩
  |false=>
  cases r4 with
  |true=>
   simp only[go_sem,↓aC,seval,h1,h2,h3,h4,beq_self_eq_true,List.append_nil,List.drop_zero,List.take_succ_cons,List.take_zero,List.drop_succ_cons];exact⟨_,rfl⟩
  |false=>
  simp only[go_sem,↓aC,seval,h1,h2,h3,h4,beq_self_eq_true,List.append_nil,List.drop_zero,List.take_succ_cons,List.take_zero,List.drop_succ_cons];refine bN (keep:=wS) (H0:=H) (by simp only[go_sem,seval,cI]) (by rfl) ?_
  cases e:decide (IntKind.i64.wrap (s1*s2)<0)with
  |false=>
   simp only[go_sem,↓aC,seval,wS,t1,t2,g1,g2,e,beq_self_eq_true,Bool.false_beq,List.append_nil,List.drop_zero,List.take_succ_cons,List.take_zero,List.drop_succ_cons,fG,eB,aR];exact⟨_,rfl⟩
  |true=>
   simp only[go_sem,↓aC,seval,wS,t1,t2,t3,t4,g1,g2,g3,g4,e,beq_self_eq_true,List.append_nil,List.drop_zero,List.take_succ_cons,List.take_zero,List.drop_succ_cons,fG,eB,aR];exact⟨_,rfl⟩)
 exact⟨m,h1⟩
end
abbrev aEH(g:String->Nat):List AOper:=[qm 47 3,qm 48 5,⟨some 49,oi 47 48 4,none,[0,1]⟩,⟨some 50,of 2 49,none,[2,0,1]⟩,⟨some 51,ola 2 50,none,[3,2,0,1]⟩,qm 52 3,qm 53 6,⟨some 54,oi 52 53 4,none,[5,6]⟩,⟨some 55,ola 4 54,none,[7,5,6]⟩,⟨some 56,oc (g "dactyl/plane.on") [u 51,u 55],none,[4,3,2,0,1,8,7,5,6]⟩,⟨some 57,om 56,none,[9,4,3,2,0,1,8,7,5,6]⟩,⟨some 58,om 3,some (some 57,false),[10,9,4,3,2,0,1,8,7,5,6]⟩,⟨some 59,om 6,some (some 57,false),[10,9,4,3,2,0,1,8,7,5,6]⟩,⟨some 60,oi 58 59 4,some (some 57,false),[11,12,10,9,4,3,2,0,1,8,7,5,6]⟩,⟨some 61,of 0 60,some (some 57,false),[13,11,12,10,9,4,3,2,0,1,8,7,5,6]⟩,⟨some 62,ola 2 61,some (some 57,false),[14,13,11,12,10,9,4,3,2,0,1,8,7,5,6]⟩,⟨some 63,om 3,some (some 57,false),[10,9,4,3,2,0,1,8,7,5,6]⟩,⟨some 64,om 5,some (some 57,false),[10,9,4,3,2,0,1,8,7,5,6]⟩,⟨some 65,oi 63 64 4,some (some 57,false),[16,17,10,9,4,3,2,0,1,8,7,5,6]⟩,⟨some 66,ola 4 65,some (some 57,false),[18,16,17,10,9,4,3,2,0,1,8,7,5,6]⟩,⟨some 67,oc (g "dactyl/plane.on") [u 62,u 66],some (some 57,false),[15,14,13,11,12,19,18,16,17,10,9,4,3,2,0,1,8,7,5,6]⟩,⟨some 68,.pick (u 57) uT (u 67),none,[20,15,14,13,11,12,19,18,16,17,10,9,4,3,2,0,1,8,7,5,6]⟩]
abbrev zA:List Nat:=[]
abbrev aEI(g:String->Nat):List AOper:=[qm 71 3,qm 72 6,⟨some 73,oi 71 72 4,none,[0,1]⟩,⟨some 74,of 2 73,none,[2,0,1]⟩,⟨some 75,ola 2 74,none,[3,2,0,1]⟩,qm 76 3,qm 77 5,⟨some 78,oi 76 77 4,none,[5,6]⟩,⟨some 79,ola 4 78,none,[7,5,6]⟩,⟨some 80,oc (g "dactyl/plane.on") [u 75,u 79],none,[4,3,2,0,1,8,7,5,6]⟩,⟨some 81,om 80,none,[9,4,3,2,0,1,8,7,5,6]⟩,⟨some 82,om 3,some (some 81,false),[10,9,4,3,2,0,1,8,7,5,6]⟩,⟨some 83,om 5,some (some 81,false),[10,9,4,3,2,0,1,8,7,5,6]⟩,⟨some 84,oi 82 83 4,some (some 81,false),[11,12,10,9,4,3,2,0,1,8,7,5,6]⟩,⟨some 85,of 0 84,some (some 81,false),[13,11,12,10,9,4,3,2,0,1,8,7,5,6]⟩,⟨some 86,ola 2 85,some (some 81,false),[14,13,11,12,10,9,4,3,2,0,1,8,7,5,6]⟩,⟨some 87,om 3,some (some 81,false),[10,9,4,3,2,0,1,8,7,5,6]⟩,⟨some 88,om 6,some (some 81,false),[10,9,4,3,2,0,1,8,7,5,6]⟩,⟨some 89,oi 87 88 4,some (some 81,false),[16,17,10,9,4,3,2,0,1,8,7,5,6]⟩,⟨some 90,ola 4 89,some (some 81,false),[18,16,17,10,9,4,3,2,0,1,8,7,5,6]⟩,⟨some 91,oc (g "dactyl/plane.on") [u 86,u 90],some (some 81,false),[15,14,13,11,12,19,18,16,17,10,9,4,3,2,0,1,8,7,5,6]⟩,⟨some 92,.pick (u 81) uT (u 91),none,[20,15,14,13,11,12,19,18,16,17,10,9,4,3,2,0,1,8,7,5,6]⟩]
abbrev zB:List Nat:=[]
abbrev aEJ(g:String->Nat):List AOper:=[qm 94 3,qm 95 5,⟨some 96,oi 94 95 4,none,[0,1]⟩,⟨some 97,ola 4 96,none,[2,0,1]⟩,qm 98 3,qm 99 6,⟨some 100,oi 98 99 4,none,[4,5]⟩,⟨some 101,ola 4 100,none,[6,4,5]⟩,⟨some 102,oc (g "dactyl/plane.meet") [u 97,u 101],none,[3,2,0,1,7,6,4,5]⟩,⟨some 93,om 102,none,[8,3,2,0,1,7,6,4,5]⟩]
abbrev zC:List Nat:=[]
def qX(g:String->Nat):ACode:=.block 4 (qS [qm 41 7,qm 42 41,qT 43 42 (om 8),qp 44 42 43,qm 40 44]<|qC 40 (qS [qmc 2 (.bool false)]<|.ret) (qS [qm 46 7,qm 45 46]<|qC 45 (.seq (.region true (aEH g))<|qC 68 (qS [qmc 2 (.bool false)]<|.ret) (.skip)) (qS [qm 70 8,qm 69 70]<|qC 69 (.seq (.region true (aEI g))<|qC 92 (qS [qmc 2 (.bool false)]<|.ret) (.skip)) (.seq (.region true (aEJ g))<|qC 93 (qS [qmc 2 (.bool false)]<|.ret) (.skip)))))
abbrev aEK(g:String->Nat):ACode:=qS [qb 21 .lss 20 19]<|.seq (qC 21 (.skip) (.exit 2))<|.seq (.block 3 (qS [qm 22 20,qm 6 22]<|qS [qm 23 6,qbi 24 .add 23 1,qm 25 5,qb 26 .eql 24 25,qm 7 26]<|qS [qf 27 0 1,ql 28 1 27,qbi 29 .eql 28 2,qm 30 29,qT 31 30 (om 6),qT 32 30 (obi .eql 31 0),qp 33 30 32,qm 34 33,qT 35 34 (om 5),qT 36 34 (om 4),qT 37 34 (obi .sub 36 1),qT 38 34 (ob .eql 35 37),qp 39 34 38,qm 8 39]<|qX g))<|.region false [qbi 103 .add 20 1,qm 20 103]
abbrev aEL:List Nat:=[21,22,6,23,24,25,26,7,27,28,29,30,31,32,33,34,35,36,37,38,39,8,41,42,43,44,40,2,46,45,47,48,49,50,51,52,53,54,55,56,57,58,59,60,61,62,63,64,65,66,67,68,2,70,69,71,72,73,74,75,76,77,78,79,80,81,82,83,84,85,86,87,88,89,90,91,92,2,94,95,96,97,98,99,100,101,102,93,2,103,20]
abbrev aEM(g:String->Nat):ACode:=qS [qb 17 .lss 16 15]<|.seq (qC 17 (.skip) (.exit 0))<|.seq (.block 1 (qS [qm 18 16,qm 5 18]<|qS [qm 19 5,qmc 20 (.int .i64 0)]<|.block 2 (.loop (aEK g))))<|.region false [qbi 104 .add 16 1,qm 16 104]
abbrev zD:List Nat:=[17,18,5,19,20,21,22,6,23,24,25,26,7,27,28,29,30,31,32,33,34,35,36,37,38,39,8,41,42,43,44,40,2,46,45,47,48,49,50,51,52,53,54,55,56,57,58,59,60,61,62,63,64,65,66,67,68,2,70,69,71,72,73,74,75,76,77,78,79,80,81,82,83,84,85,86,87,88,89,90,91,92,2,94,95,96,97,98,99,100,101,102,93,2,103,20,104,16]
def oG(g:String->Nat):AFn:=⟨105,[],[.tmp 2],qS [qx 1 2 0,qmc 2 (.bool false)]<|qS [qla 9 2 1,qc 10 (g "dactyl/plane.segments") [u 9],qc 11 (g "slices.Collect[dactyl/plane.segment]") [u 10],qm 3 11]<|qS [qm 12 3,qn 13 12,qm 4 13]<|.seq (qS [qm 14 3,qn 15 14,qmc 16 (.int .i64 0)]<|.block 0 (.loop (aEM g)))<|qS [qmc 2 (.bool true)]<|.ret⟩
section
variable {A:AProg}{g:String->Nat}
def aXd(H:List AObj)(e:AExit)(ρ:bH)(H':List AObj)(wr:List Nat):Prop:=H'=H/\wr=[]/\(e=.normal∨(e=.ret/\ρ 2=.bool false))
theorem aN3{H:List AObj}{ρ:bH}:aXd H .normal ρ H []:=⟨rfl,rfl,.inl rfl⟩
theorem aKl{H:List AObj}{ρ:bH}(h:ρ 2=.bool false):aXd H .ret ρ H []:=⟨rfl,rfl,.inr ⟨rfl,h⟩⟩
set_option maxHeartbeats 1600000 in
theorem aAW(F:PlaneFns A g){H:List AObj}{b:Nat}{rows:List (List AV)}(hr:aCu rows){ρ:bH}{i k:Nat}{f c:Bool}(hi:i<rows.length)(hk:k<rows.length)(h3:ρ 3=.sl false rows)(h5:ρ 5=vi i)(h6:ρ 6=vi k)(h7:ρ 7=.bool f)(h8:ρ 8=.bool c):
  wc A 105 ⟨b,[]⟩ (qX g) ρ H [] (aXd H) ⟨⟩:=by
 obtain⟨a1,a2,a3,a4,ea⟩:=hr _ (List.getElem_mem hi);obtain⟨b1,b2,b3,b4,eb⟩:=hr _ (List.getElem_mem hk);have gi:rows[i]? = some [vi a1,vi a2,vi a3,vi a4]:=by rw[List.getElem?_eq_getElem hi,ea]
 have gk:rows[k]? = some [vi b1,vi b2,vi b3,vi b4]:=by rw[List.getElem?_eq_getElem hk,eb]
 obtain⟨r1,o1⟩:=aIm F.on F.turn a3 a4 b1 b2 b3 b4 H;obtain⟨r2,o2⟩:=aIm F.on F.turn b1 b2 a1 a2 a3 a4 H;obtain⟨r3,o3⟩:=aIm F.on F.turn b3 b4 a1 a2 a3 a4 H;obtain⟨r4,o4⟩:=aIm F.on F.turn a1 a2 b1 b2 b3 b4 H;obtain⟨r5,o5⟩:=aRJ F a1 a2 a3 a4 b1 b2 b3 b4 H;simp only[qX];cases f with
 |true=>
  cases c with
  |true=>
   simp only[go_sem,↓aC,seval,h7,h8,beq_self_eq_true];exact aKl rfl
  |false=>
   simp only[go_sem,↓aC,seval,h7,h8,beq_self_eq_true];refine bN (keep:=zA) (H0:=H) (by simp only[go_sem,seval,cI]) (by rfl) ?_
   cases r1<;>cases r2<;>simp only[go_sem,↓aC,seval,zA,h3,h5,h6,gi,gk,Int.natCast_nonneg,Int.toNat_natCast,o1,o2,beq_self_eq_true,Bool.true_beq,List.drop_zero,List.take_succ_cons,List.take_zero,List.drop_succ_cons]
   all_goals first | exact aN3 | exact aKl rfl
 |false=>
  cases c with
  |true=>
   simp only[go_sem,↓aC,seval,h7,h8,Bool.false_beq];refine bN (keep:=zB) (H0:=H) (by simp only[go_sem,seval,cI]) (by rfl) ?_
   cases r3<;>cases r4<;>simp only[go_sem,↓aC,seval,zB,h3,h5,h6,gi,gk,Int.natCast_nonneg,Int.toNat_natCast,o3,o4,beq_self_eq_true,Bool.true_beq,List.drop_zero,List.take_succ_cons,List.take_zero,List.drop_succ_cons]
   all_goals first | exact aN3 | exact aKl rfl
  |false=>
   simp only[go_sem,↓aC,seval,h7,h8,Bool.false_beq];refine bN (keep:=zC) (H0:=H) (by simp only[go_sem,seval,cI]) (by rfl) ?_
   cases r5<;>simp only[go_sem,↓aC,seval,zC,h3,h5,h6,gi,gk,Int.natCast_nonneg,Int.toNat_natCast,o5,List.drop_zero,List.take_succ_cons,List.take_zero]
   all_goals first | exact aN3 | exact aKl rfl
theorem aN4(F:PlaneFns A g)(h:Has A g "dactyl/plane.Simple" (oG g))(s:Shape)(hs:s.points.length<=1000)(H:List AObj):∃r:Bool,aL A (g "dactyl/plane.Simple") [.agg (bB s)] H=some (.bool r,H,[]):=by
 obtain⟨v,H',wr,h1,rfl,rfl,m,rfl⟩:=h.callEx (args:=[.agg (bB s)]) (H:=H) (K:=fun v H' wr=>wr=[]/\H'=H/\∃r:Bool,v=.bool r) (by simp[oG]) (by kernel_rfl) (by
  have hsg:=aBF F.seg s H;obtain⟨r,hr,hc⟩:=aIl F.yf F.coll F.app F.seg1 s hs H;rcases hr with rfl | ⟨rows,rfl,hrl,hrows⟩
  ·simp only[oG];simp only[bB]at hsg ⊢;simp only[go_sem,↓aC,seval,hsg,hc,List.append_nil];refine bZ (id:=0) (W:=zD) (fun i ρ1 H1 wr=>wr=[]/\H1=H/\ρ1 16=vi 0) 0 (fun ρ1 H1 wr=>wr=[]/\H1=H) (by kernel_rfl) (by rfl) ⟨rfl,rfl,rfl⟩ ?_ ?_
   ·rintro i ρ1 H1 wr1 hil ⟨rfl,rfl,e16⟩ hf;have e15:ρ1 15=vi 0:=by rw[hf 15 (by rfl)];rfl
    simp only[go_sem,↓aC,seval,e16,e15,Int.lt_irrefl,decide_false]
   ·rintro ρ' H' wr' ⟨rfl,rfl⟩ hf;simp only[go_sem,↓aC,seval];exact⟨_,rfl⟩
  ·simp only[oG];simp only[bB]at hsg ⊢;simp only[go_sem,↓aC,seval,hsg,hc,List.append_nil];refine bZ (id:=0) (W:=zD) (fun i ρ1 H1 wr=>wr=[]/\H1=H/\ρ1 16=vi (i:Nat)) rows.length (fun ρ1 H1 wr=>wr=[]/\H1=H) (by kernel_rfl) (by rfl) ⟨rfl,rfl,rfl⟩ ?_ ?_
   ·rintro i ρ1 H1 wr1 hil ⟨rfl,rfl,e16⟩ hf;have e15:ρ1 15=vi (rows.length:Nat):=by rw[hf 15 (by rfl)];rfl
    have e4:ρ1 4=vi (rows.length:Nat):=by rw[hf 4 (by rfl)];rfl
    have e3:ρ1 3=.sl false rows:=by rw[hf 3 (by rfl)];rfl
    have e1:ρ1 1=.ep [vi s.kind,.sl false (s.points.map bQ)] 0:=by rw[hf 1 (by rfl)];rfl
    simp only[go_sem,↓aC,seval,e16,e15];refine aD (fun hb => ?_) (fun hb => ?_)
    ·have hlt:i<rows.length:=by simp at hb;omega
     have hw1:IntKind.i64.wrap ((i:Int)+1)=((i+1:Nat):Int):=by rw[wrap_i64 (by omega) (by omega)];omega
     simp only[go_sem,↓aC,seval,e16];refine bZ (id:=2) (W:=aEL) (fun k ρ2 H2 wr=>wr=[]/\H2=H1/\ρ2 20=vi (k:Nat)) i (fun ρ2 H2 wr=>wr=[]/\H2=H1) (by kernel_rfl) (by rfl) ⟨rfl,rfl,rfl⟩ ?_ ?_
     ·rintro k ρ2 H2 wr2 hkl ⟨rfl,rfl,f20⟩ hf2;have f19:ρ2 19=vi (i:Nat):=by rw[hf2 19 (by rfl)];rfl
      have f5:ρ2 5=vi (i:Nat):=by rw[hf2 5 (by rfl)];rfl
      have f4:ρ2 4=vi (rows.length:Nat):=by rw[hf2 4 (by rfl)];exact e4
      have f3:ρ2 3=.sl false rows:=by rw[hf2 3 (by rfl)];exact e3
      have f1:ρ2 1=.ep [vi s.kind,.sl false (s.points.map bQ)] 0:=by rw[hf2 1 (by rfl)];exact e1
      simp only[go_sem,↓aC,seval,f20,f19];refine aD (fun hb2 => ?_) (fun hb2 => ?_)
      ·have hlk:k<i:=by simp at hb2;omega
       have hw2:IntKind.i64.wrap ((k:Int)+1)=((k+1:Nat):Int):=by rw[wrap_i64 (by omega) (by omega)];omega
       have hwn:IntKind.i64.wrap ((rows.length:Int) - 1)=((rows.length:Int) - 1):=wrap_i64 (by omega) (by omega)
       cases k2:(s.kind==2)with
       |false=>
        simp only[go_sem,↓aC,seval,f20,f5,f1,hw2,k2,Bool.false_beq,List.drop_zero,List.take_succ_cons,List.take_zero];refine gR (fun e ρ' H' wr' hh hf' => ?_) (aAW F hrows (i:=i) (k:=k) hlt (by omega) (by simp only[go_sem,seval,f3]) (by simp only[go_sem,seval,f5]) (by simp only[go_sem,seval]) (by simp only[go_sem,seval];rfl) (by simp only[go_sem,seval];rfl))
        obtain⟨rfl,rfl,hh⟩:=hh;rcases hh with rfl | ⟨rfl,r2⟩
        ·have r20:ρ' 20=vi (k:Nat):=by rw[hf' 20 (by rfl)];simp only[go_sem,seval,f20]
         simp only[go_sem,↓aC,seval,r20,hw2];exact hlk
        ·simp only[go_sem,↓aC,seval,r2];exact⟨_,rfl⟩
       |true=>
       cases kz:((k:Int)==0)with
       |false=>
        simp only[go_sem,↓aC,seval,f20,f5,f1,hw2,k2,kz,beq_self_eq_true,Bool.false_beq,List.drop_zero,List.take_succ_cons,List.take_zero];refine gR (fun e ρ' H' wr' hh hf' => ?_) (aAW F hrows (i:=i) (k:=k) hlt (by omega) (by simp only[go_sem,seval,f3]) (by simp only[go_sem,seval,f5]) (by simp only[go_sem,seval]) (by simp only[go_sem,seval];rfl) (by simp only[go_sem,seval];rfl))
        obtain⟨rfl,rfl,hh⟩:=hh;rcases hh with rfl | ⟨rfl,r2⟩
        ·have r20:ρ' 20=vi (k:Nat):=by rw[hf' 20 (by rfl)];simp only[go_sem,seval,f20]
         simp only[go_sem,↓aC,seval,r20,hw2];exact hlk
        ·simp only[go_sem,↓aC,seval,r2];exact⟨_,rfl⟩
       |true=>
        simp only[go_sem,↓aC,seval,f20,f5,f4,f1,hw2,hwn,k2,kz,beq_self_eq_true,List.drop_zero,List.take_succ_cons,List.take_zero];refine gR (fun e ρ' H' wr' hh hf' => ?_) (aAW F hrows (i:=i) (k:=k) hlt (by omega) (by simp only[go_sem,seval,f3]) (by simp only[go_sem,seval,f5]) (by simp only[go_sem,seval]) (by simp only[go_sem,seval];rfl) (by simp only[go_sem,seval];rfl))
        obtain⟨rfl,rfl,hh⟩:=hh;rcases hh with rfl | ⟨rfl,r2⟩
        ·have r20:ρ' 20=vi (k:Nat):=by rw[hf' 20 (by rfl)];simp only[go_sem,seval,f20]
         simp only[go_sem,↓aC,seval,r20,hw2];exact hlk
        ·simp only[go_sem,↓aC,seval,r2];exact⟨_,rfl⟩
      ·simp only[go_sem,seval]
     ·rintro ρ2 H2 wr2 ⟨rfl,rfl⟩ hf2;have f16:ρ2 16=vi (i:Nat):=by rw[hf2 16 (by rfl)];exact e16
      simp only[go_sem,↓aC,seval,f16,hw1];exact hlt
    ·simp only[go_sem,seval]
   ·rintro ρ' H' wr' ⟨rfl,rfl⟩ hf;simp only[go_sem,↓aC,seval];exact⟨_,rfl⟩)
 exact⟨m,h1⟩
end
def qY(g:String->Nat):ACode:=.block 0 (.rangeF (.tmp 31) [32] (qS [qq 4 (.alloc [(.int .i64 0),(.int .i64 0),(.int .i64 0),(.int .i64 0)]),qs 4 4 32]<|.block 1 (qS [qf 33 0 4,qla 34 2 33,qf 35 2 4,qla 36 2 35,qq 37 (.bin .eql (.cells [.int,.int]) (u 34) (u 36))]<|qC 37 (qS [qz (.store 1 (u 2) uF)]<|.ret) (.skip))))
def sG(g:String->Nat):AFn:=⟨38,[2,5,32,4],[.cell 2 1 false],qS [qx 1 2 0,qq 2 (.alloc [(.bool false)])]<|qS [qq 5 (.mkmap),qz (.ins (u 5) (ui 0) (ui 1)),qz (.ins (u 5) (ui 1) (ui 2)),qz (.ins (u 5) (ui 2) (ui 3)),qm 6 5,qf 7 0 1,ql 8 1 7,qq 9 (.look (.int .i64 0) (u 6) (u 8) false),qm 3 9]<|.seq (qS [qm 10 3,qbi 11 .eql 10 0,qm 12 11,qF 13 12 (of 1 1),qF 14 12 (ol 1 13),qF 15 12 (on 14),qF 16 12 (om 3),qF 17 12 (ob .lss 15 16),qq 18 (.pick (u 12) uT (u 17)),qm 19 18,qF 20 19 (of 0 1),qF 21 19 (ol 1 20),qF 22 19 (obi .eql 21 0),qF 23 19 (om 22),qT 24 23 (of 1 1),qT 25 23 (ol 1 24),qT 26 23 (on 25),qT 27 23 (obi .gtr 26 1),qF 28 19 (op 23 27),qq 29 (.pick (u 19) uT (u 28))]<|qC 29 (qS [qz (.store 1 (u 2) uF)]<|.ret) (.skip))<|.seq (qS [qla 30 2 1,qc 31 (g "dactyl/plane.segments") [u 30]]<|qY g)<|qS [qz (.store 1 (u 2) uT)]<|.ret⟩
section
variable {A:AProg}{g:String->Nat}
abbrev aPT:ACode:=qS [qq 4 (.alloc [(.int .i64 0),(.int .i64 0),(.int .i64 0),(.int .i64 0)]),qs 4 4 32]<|.block 1 (qS [qf 33 0 4,qla 34 2 33,qf 35 2 4,qla 36 2 35,qq 37 (.bin .eql (.cells [.int,.int]) (u 34) (u 36))]<|qC 37 (qS [qz (.store 1 (u 2) uF)]<|.ret) (.skip))
def ShI(H:List AObj)(mp:AObj)(pend:Option AExit)(X:List AObj):Prop:=∃x3 l,X=H++[.box 1 [.bool false],mp,.rnd 1 H.length [2,5,32,4] [32] aPT l false pend,x3]/\l.length=38/\fenv l 2=.ptr H.length 1 0
theorem aRK(hY:NoYF A)(H:List AObj)(mp:AObj):aGU A (H.length+2) 1 H.length (H.length+4) (fun _=>ShI H mp none) (ShI H mp (some .ret)):=by
 refine⟨fun i X hX => ?_,fun X hX => ?_,fun i X a b c d hi hX => ?_⟩
 ·obtain⟨x3,l,rfl,_⟩:=hX;simp
 ·obtain⟨x3,l,rfl,_⟩:=hX;simp
 obtain⟨x3,l,rfl,hl,h2⟩:=hX;refine aEF hY (K:=fun e H' wr=>(if e=.normal then ShI H mp none H' else ShI H mp (some .ret) H')/\∀x∈wr,H.length<=x) (N:=38) (l:=l) (by rw[gP];rfl) rfl (by kernel_rfl) (by kernel_rfl) hl ?_
 have hs:fenv (dQ l [32] [.agg [vi a,vi b,vi c,vi d]])=upd (fenv l) 32 (.agg [vi a,vi b,vi c,vi d]):=aBm (by omega)
 rw[hs];generalize hρ:fenv l=ρ at *;simp only[List.cons_append,List.nil_append];have hrange:∀{w2:List Nat} {n:Nat},(∀x∈w2,H.length<=x)->∀x∈List.range' H.length n++(H.length+2)::w2,H.length<=x:=fun {w2 n} h x hx=>by
  rcases List.mem_append.1 hx with hx | hx
  ·rw[List.mem_range'_1]at hx;exact hx.1
  ·rcases List.mem_cons.1 hx with rfl | hx
   ·omega
   ·exact h x hx
 have hcmp:∃r:Bool,kM .eql (.cells [.int,.int]) (.agg [vi a,vi b]) (.agg [vi c,vi d])=some (.bool r):=⟨a==c&&b==d,by
  have e1:aAc .int (vi a) (vi c)=some (a==c):=rfl;have e2:aAc .int (vi b) (vi d)=some (b==d):=rfl;simp[kM,qD,jQ,e1,e2];cases (a==c)<;>cases (b==d)<;>rfl⟩
 obtain⟨r,hcmp⟩:=hcmp;simp only[go_sem,↓aC,seval];refine⟨_,_,_,_,_,rfl, ?_⟩;cases r with
 |false=>
  simp only[go_sem,↓aC,seval,hcmp];exact⟨_,_,_,_,_,rfl,⟨_,l,rfl,hl,by rw[hρ];exact h2⟩,hrange (by simp)⟩
 |true=>
  simp only[go_sem,↓aC,seval,h2,hcmp,List.drop_zero,List.take_zero,List.drop_succ_cons];exact⟨_,_,_,_,_,rfl,⟨_,l,rfl,hl,by rw[hρ];exact h2⟩,hrange (by simp)⟩
theorem aEN(F:PlaneFns A g)(s:Shape)(hs:s.points.length<=1000){H:List AObj}{mp:AObj}{ρ:bH}{Q:AExit->bH->List AObj->List Nat->Prop}(h31:ρ 31=.fn (g "dactyl/plane.segments$1") [] [.ep [vi s.kind,.sl false (s.points.map bQ)] 0])(h2:ρ 2=.ptr H.length 1 0)
  (hQ:∀e x3,e=.normal∨e=.ret->Q e ρ (H++[.box 1 [.bool false],mp,.gone 1,x3]) []):wc A 38 ⟨H.length,[2,5,32,4]⟩ (qY g) ρ (H++[.box 1 [.bool false],mp,.gone 0,.gone 0]) [] Q ⟨⟩:=by
 simp only[qY];simp only[go_sem,seval];refine aIi (id:=H.length+2) (v:=1) (X:=fun l=>H++[.box 1 [.bool false],mp,.rnd 1 H.length [2,5,32,4] [32] aPT l false none,.gone 0]) h31 (by rfl) (by simp) (fun _=>by rfl) (by unfold bG;rw[gP];rfl) (fun l=>by rw[aK0];rfl) ?_
 intro l hl he;obtain⟨H2,wr2,k1,k2,k3⟩:=aIk F.seg1 (aRK F.yf H mp) s.kind s.points hs _ (⟨.gone 0,l,rfl,hl,by rw[he];exact h2⟩:ShI H mp none _)
 have hw:bA H.length [] ((H.length+2)::wr2)=[]:=aA0 (fun x hx=>by rcases List.mem_cons.1 hx with rfl | hx;exact Nat.le_add_right _ _;exact k3 x hx)
 rcases k2 with⟨i,hi,x3,l2,rfl,hl2,_⟩ | ⟨x3,l2,rfl,hl2,_⟩
 ·refine⟨_,_,_,_,_,_,_,_,none,k1,by rw[gP];rfl, ?_⟩
  rw[hw,nI]
  show aCV 0 _ _ .normal _ _ _
  simp only[go_sem,seval];exact hQ .normal x3 (.inl rfl)
 ·refine⟨_,_,_,_,_,_,_,_,some .ret,k1,by rw[gP];rfl, ?_⟩
  rw[hw,nI]
  show aCV 0 _ _ .ret _ _ _
  simp only[go_sem,seval];exact hQ .ret x3 (.inr rfl)
theorem aN5(F:PlaneFns A g)(h:Has A g "dactyl/plane.shaped" (sG g))(s:Shape)(hs:s.points.length<=1000)(hk:0<=s.kind/\s.kind<=2)(H:List AObj):∃r:Bool,aL A (g "dactyl/plane.shaped") [.agg (bB s)] H=some (.bool r,H,[]):=by
 obtain⟨v,H',wr,h1,rfl,rfl,m,rfl⟩:=h.callEx (args:=[.agg (bB s)]) (H:=H) (K:=fun v H' wr=>wr=[]/\H'=H/\∃r:Bool,v=.bool r) (by simp[sG]) (by kernel_rfl) (by
  have hsg:=fun H=>aBF F.seg s H;simp only[sG];simp only[bB]at hsg ⊢;obtain⟨hk0,hk2⟩:=hk;have hk3:s.kind=0∨s.kind=1∨s.kind=2:=by omega
  rcases hk3 with hk | hk | hk
  ·rw[hk]at hsg ⊢;cases e1:decide ((s.points.length:Int)<1)with
   |true=>
    simp only[go_sem,↓aC,seval,List.length_map,e1];exact⟨_,rfl⟩
   |false=>
    simp only[go_sem,↓aC,seval,List.length_map,e1];refine aD (fun hb => ?_) (fun hb => ?_)
    ·simp only[go_sem,↓aC,seval];exact⟨_,rfl⟩
    ·simp only[go_sem,↓aC,seval,hsg];refine aEN F s hs (by rw[hk];rfl) (by rfl) ?_
     intro e x3 he;rcases he with rfl | rfl
     ·simp only[go_sem,↓aC,seval];exact⟨_,rfl⟩
     ·simp only[go_sem,↓aC,seval];exact⟨_,rfl⟩
  ·rw[hk]at hsg ⊢;cases e1:decide ((s.points.length:Int)<2)with
   |true=>
    simp only[go_sem,↓aC,seval,List.length_map,e1];exact⟨_,rfl⟩
   |false=>
    simp only[go_sem,↓aC,seval,hsg,List.length_map,e1];refine aEN F s hs (by rw[hk];rfl) (by rfl) ?_
    intro e x3 he;rcases he with rfl | rfl
    ·simp only[go_sem,↓aC,seval];exact⟨_,rfl⟩
    ·simp only[go_sem,↓aC,seval];exact⟨_,rfl⟩
  ·rw[hk]at hsg ⊢;cases e1:decide ((s.points.length:Int)<3)with
   |true=>
    simp only[go_sem,↓aC,seval,List.length_map,e1];exact⟨_,rfl⟩
   |false=>
    simp only[go_sem,↓aC,seval,hsg,List.length_map,e1];refine aEN F s hs (by rw[hk];rfl) (by rfl) ?_
    intro e x3 he;rcases he with rfl | rfl
    ·simp only[go_sem,↓aC,seval];exact⟨_,rfl⟩
    ·simp only[go_sem,↓aC,seval];exact⟨_,rfl⟩)
 exact⟨m,h1⟩
end
def wT(g:String->Nat):AFn:=⟨8,[],[.tmp 3],qS [qmc 3 (.bool false)]<|qS [qf 4 2 1,ql 5 1 4,qm 6 0,qc 7 (g "slices.ContainsFunc[[]dactyl/api.Shape,dactyl/api.Shape]") [u 5,u 6],qm 3 7]<|.ret⟩
def wU(g:String->Nat):AFn:=⟨26,[],[.tmp 3],qS [qx 2 2 0,qmc 3 (.bool false)]<|qS [qf 4 0 2,ql 5 1 4,qbi 6 .lss 5 0,qm 7 6,qF 8 7 (of 0 2),qF 9 7 (ol 1 8),qF 10 7 (of 0 1),qF 11 7 (ol 1 10),qF 12 7 (ob .gtr 9 11),qq 13 (.pick (u 7) uT (u 12)),qm 14 13,qF 15 14 (of 1 2),qF 16 14 (ol 1 15),qF 17 14 (obi .lss 16 0),qq 18 (.pick (u 14) uT (u 17)),qm 19 18,qF 20 19 (of 1 2),qF 21 19 (ol 1 20),qF 22 19 (of 1 1),qF 23 19 (ol 1 22),qF 24 19 (ob .gtr 21 23),qq 25 (.pick (u 19) uT (u 24)),qm 3 25]<|.ret⟩
def wV(g:String->Nat):AFn:=⟨7,[],[.tmp 2],qS [qx 1 2 0,qmc 2 (.bool false)]<|qS [qf 3 1 1,ql 4 1 3,qn 5 4,qbi 6 .gtr 5 12,qm 2 6]<|.ret⟩
def wW(g:String->Nat):AFn:=⟨6,[],[.tmp 2],qS [qx 1 2 0,qmc 2 (.bool false)]<|qS [qla 3 2 1,qc 4 (g "dactyl/plane.shaped") [u 3],qq 5 (.un .not (u 4)),qm 2 5]<|.ret⟩
def wY(g:String->Nat):AFn:=⟨8,[],[.tmp 3],qS [qx 2 2 0,qmc 3 (.bool false)]<|qS [qf 4 1 2,ql 5 1 4,ql 6 1 1,qc 7 (g "slices.ContainsFunc[[]dactyl/api.Point,dactyl/api.Point]") [u 5,u 6],qm 3 7]<|.ret⟩
def wZ(g:String->Nat):AFn:=⟨6,[],[.tmp 2],qS [qx 1 2 0,qmc 2 (.bool false)]<|qS [qla 3 2 1,qc 4 (g "dactyl/plane.Simple") [u 3],qq 5 (.un .not (u 4)),qm 2 5]<|.ret⟩
def aAu(g:String->Nat):ACode:=.block 0 (qS [qf 8 0 1,ql 9 1 8,qf 10 1 1,ql 11 1 10,qq 12 (.mm false [(.tmp 9),(.tmp 11)]),qbi 13 .lss 12 0,qm 14 13,qF 15 14 (of 0 1),qF 16 14 (ol 1 15),qF 17 14 (of 1 1),qF 18 14 (ol 1 17),qF 19 14 (.mm true [(.tmp 16),(.tmp 18)]),qF 20 14 (obi .gtr 19 1000),qq 21 (.pick (u 14) uT (u 20)),qm 22 21,qF 23 22 (of 2 1),qF 24 22 (ol 1 23),qF 25 22 (on 24),qF 26 22 (obi .gtr 25 8),qq 27 (.pick (u 22) uT (u 26)),qm 28 27,qF 29 28 (om 3),qF 30 28 (.callv (u 29) [(.const (.fn (g "dactyl/plane.Valid$3") [] []))]),qq 31 (.pick (u 28) uT (u 30)),qm 7 31]<|qC 7 (qS [qmc 2 (.int .i64 4)]<|.ret) (qS [qm 33 3,qq 34 (.callv (u 33) [(.const (.fn (g "dactyl/plane.Valid$4") [] []))]),qm 32 34]<|qC 32 (qS [qmc 2 (.int .i64 1)]<|.ret) (qS [qm 36 3,qq 37 (.mkf (g "dactyl/plane.Valid$5") [] [(.tmp 4)]),qq 38 (.callv (u 36) [(.tmp 37)]),qm 35 38]<|qC 35 (qS [qmc 2 (.int .i64 5)]<|.ret) (qS [qm 40 3,qq 41 (.callv (u 40) [(.const (.fn (g "dactyl/plane.Valid$6") [] []))]),qm 39 41]<|qC 39 (qS [qmc 2 (.int .i64 2)]<|.ret) (.skip)))))
def aAX(g:String->Nat):AFn:=⟨42,[4],[.tmp 2],qS [qx 1 3 0,qmc 2 (.int .i64 0)]<|qS [qq 5 (.mkf (g "dactyl/plane.Valid$1") [] [(.tmp 1)]),qm 3 5]<|qS [qq 6 (.mkf (g "dactyl/plane.Valid$2") [] [(.tmp 1)]),qq 4 (.alloc [.nilFn]),qs 1 4 6]<|.seq (aAu g)<|qS [qmc 2 (.int .i64 0)]<|.ret⟩
section
variable {A:AProg}{g:String->Nat}
def aN6(A:AProg)(f k:Nat)(agg:Bool):Prop:=∃fi,(A.fn f=some (aJ5 fi)/\A.prim f=none)/\(A.fn fi=some (aJ4 k agg)/\A.prim fi=none)
theorem aPU{α:Type}{f k:Nat}{agg:Bool}(h:aN6 A f k agg){enc:α->List AV}(he:Elt k agg enc){caps:List AV}(hc:CapOk caps){l:List α}(hl:aOD l){H:List AObj}{f1:Nat}
  (hs:∀a∈l,∃r:Bool,aL A f1 (asV agg (enc a)::caps) H=some (.bool r,H,[])):∃r:Bool,aL A f [.sl false (l.map enc),.fn f1 [] caps] H=some (.bool r,H,[]):=by
 obtain⟨fi,⟨a1,a2⟩,b1,b2⟩:=h;refine⟨_,aEn (q:=fun a=>match aL A f1 (asV agg (enc a)::caps) H with | some (.bool b,_,_)=>b | _=>false) a1 a2 hc (aEm b1 b2 he hc hl fun a ha => ?_)⟩
 obtain⟨r,hr⟩:=hs a ha;dsimp only;rw[hr]
structure HasPlane(A:AProg)(g:String->Nat):Prop extends PlaneFns A g where
 shaped:Has A g "dactyl/plane.shaped" (sG g)
 simple:Has A g "dactyl/plane.Simple" (oG g)
 conS:aN6 A (g "slices.ContainsFunc[[]dactyl/api.Shape,dactyl/api.Shape]") 2 true
 conP:aN6 A (g "slices.ContainsFunc[[]dactyl/api.Point,dactyl/api.Point]") 2 true
 v1:Has A g "dactyl/plane.Valid$1" (wT g)
 v2:Has A g "dactyl/plane.Valid$2" (wU g)
 v3:Has A g "dactyl/plane.Valid$3" (wV g)
 v4:Has A g "dactyl/plane.Valid$4" (wW g)
 v5:Has A g "dactyl/plane.Valid$5" (wY g)
 v6:Has A g "dactyl/plane.Valid$6" (wZ g)
 valid:Has A g "dactyl/plane.Valid" (aAX g)
abbrev aSI(w h:Int)(l:List Shape):AV:=.ep [vi w,vi h,.sl false (l.map bB)] 0
theorem aP5(F:HasPlane A g){w hh:Int}{l:List Shape}(hl:l.length<=1000){f1:Nat}{caps:List AV}(hc:CapOk caps){H:List AObj}(hs:∀s∈l,∃r:Bool,aL A f1 (.agg (bB s)::caps) H=some (.bool r,H,[])):
  ∃r:Bool,aL A (g "dactyl/plane.Valid$1") [.fn f1 [] caps,aSI w hh l] H=some (.bool r,H,[]):=by
 obtain⟨r,hr⟩:=aPU F.conS aHX hc (by show l.length<_;omega) hs
 refine⟨r,F.v1.call (by simp[wT]) (by kernel_rfl) ?_⟩
 simp only[wT];simp only[go_sem,↓aC,seval,List.drop_succ_cons,List.drop_zero,List.take_succ_cons,List.take_zero,hr,List.append_nil]
theorem aXe(F:HasPlane A g){w hh:Int}{l:List Shape}(p:Int×Int)(H:List AObj):∃r:Bool,aL A (g "dactyl/plane.Valid$2") [.agg (bQ p),aSI w hh l] H=some (.bool r,H,[]):=by
 obtain⟨v,H',wr,h1,rfl,rfl,m,rfl⟩:=F.v2.callEx (args:=[.agg (bQ p),aSI w hh l]) (H:=H) (K:=fun v H' wr=>wr=[]/\H'=H/\∃r:Bool,v=.bool r) (by simp[wU]) (by kernel_rfl) (by
  simp only[wU];cases e1:decide (p.1<0)<;>cases e2:decide (p.1>w)<;>cases e3:decide (p.2<0)<;>simp only[go_sem,↓aC,seval,bQ,e1,e2,e3,beq_self_eq_true,Bool.true_beq,List.drop_succ_cons,List.drop_zero,List.take_succ_cons,List.take_zero,List.append_nil]
  all_goals exact⟨_,rfl⟩)
 exact⟨m,h1⟩
theorem aXf(F:HasPlane A g)(s:Shape)(H:List AObj):∃r:Bool,aL A (g "dactyl/plane.Valid$3") [.agg (bB s)] H=some (.bool r,H,[]):=by
 refine⟨_,F.v3.call (v:=.bool (decide ((s.points.length:Int)>12))) (by simp[wV]) (by kernel_rfl) ?_⟩
 simp only[wV];simp only[go_sem,↓aC,seval,bB,List.length_map,List.drop_succ_cons,List.drop_zero,List.take_succ_cons,List.take_zero,List.append_nil]
theorem aXg(F:HasPlane A g)(s:Shape)(hs:s.points.length<=1000)(hk:0<=s.kind/\s.kind<=2)(H:List AObj):∃r:Bool,aL A (g "dactyl/plane.Valid$4") [.agg (bB s)] H=some (.bool r,H,[]):=by
 obtain⟨r,hr⟩:=aN5 F.toPlaneFns F.shaped s hs hk H;refine⟨!r,F.v4.call (by simp[wW]) (by kernel_rfl) ?_⟩
 simp only[wW];simp only[bB]at hr ⊢;simp only[go_sem,↓aC,seval,hr,List.append_nil]
theorem aXh(F:HasPlane A g)(s:Shape)(hs:s.points.length<=1000)(H:List AObj):∃r:Bool,aL A (g "dactyl/plane.Valid$6") [.agg (bB s)] H=some (.bool r,H,[]):=by
 obtain⟨r,hr⟩:=aN4 F.toPlaneFns F.simple s hs H;refine⟨!r,F.v6.call (by simp[wZ]) (by kernel_rfl) ?_⟩
 simp only[wZ];simp only[bB]at hr ⊢;simp only[go_sem,↓aC,seval,hr,List.append_nil]
theorem aXi(F:HasPlane A g){w hh:Int}{l:List Shape}(s:Shape)(hs:s.points.length<=1000){X:List AObj}{o:Nat}(ho:X[o]? = some (.box 1 [.fn (g "dactyl/plane.Valid$2") [] [aSI w hh l]])):
  ∃r:Bool,aL A (g "dactyl/plane.Valid$5") [.agg (bB s),.ptr o 1 0] X=some (.bool r,X,[]):=by
 obtain⟨r,hr⟩:=aPU (H:=X) F.conP aHW (fA.ep [vi w,vi hh,.sl false (l.map bB)] 0) (by show s.points.length<_;omega) (fun p _=>aXe F (w:=w) (hh:=hh) (l:=l) p _)
 refine⟨r,F.v5.call (by simp[wY]) (by kernel_rfl) ?_⟩
 simp only[wY];simp only[go_sem,↓aC,seval,bB,List.append_nil,List.drop_succ_cons,List.drop_zero,List.take_succ_cons,List.take_zero,ho,hr]
abbrev aPV(w h:Int)(l:List Shape):List AV:=[vi w,vi h,.sl false (l.map bB)]
theorem aGY(F:HasPlane A g)(w hh:Int)(l:List Shape)(hw:1<=w/\w<=1000)(hh2:1<=hh/\hh<=1000)(hl:l.length<=8)(hs:∀s∈l,aCX s=true)(H:List AObj):∃e:Int,aL A (g "dactyl/plane.Valid") [.agg (aPV w hh l)] H=some (vi e,H,[]):=by
 have hsp:∀s∈l,s.points.length<=1000/\0<=s.kind/\s.kind<=2:=fun s hm=>by
  have q1:=hs s hm;unfold aCX at q1;simp only[Bool.and_eq_true,iP]at q1;omega
 obtain⟨v,H',wr,h1,rfl,rfl,m,rfl⟩:=F.valid.callEx (args:=[.agg (aPV w hh l)]) (H:=H) (K:=fun v H' wr=>wr=[]/\H'=H/\∃r:Int,v=vi r) (by simp[aAX]) (by kernel_rfl) (by
  generalize hX:H++[.box 1 [.fn (g "dactyl/plane.Valid$2") [] [aSI w hh l]]]=X;have ho:X[H.length]? = some (.box 1 [.fn (g "dactyl/plane.Valid$2") [] [aSI w hh l]]):=by rw[<- hX,vP];rfl
  obtain⟨r3,g3⟩:=aP5 F (w:=w) (hh:=hh) (l:=l) (by omega) fA (H:=X) (f1:=g "dactyl/plane.Valid$3") (fun s hm=>aXf F s X)
  obtain⟨r4,g4⟩:=aP5 F (w:=w) (hh:=hh) (l:=l) (by omega) fA (H:=X) (f1:=g "dactyl/plane.Valid$4") (fun s hm=>aXg F s (hsp s hm).1 (hsp s hm).2 X)
  obtain⟨r5,g5⟩:=aP5 F (w:=w) (hh:=hh) (l:=l) (by omega) (fA.ptr H.length 1 0) (H:=X) (f1:=g "dactyl/plane.Valid$5") (fun s hm=>aXi F s (hsp s hm).1 ho)
  obtain⟨r6,g6⟩:=aP5 F (w:=w) (hh:=hh) (l:=l) (by omega) fA (H:=X) (f1:=g "dactyl/plane.Valid$6") (fun s hm=>aXh F s (hsp s hm).1 X)
  subst hX;simp only[aAX];simp only[go_sem,↓aC,seval];simp only[aAu];have c1:decide ((if hh<w then hh else w)<0)=false:=by rw[decide_eq_false_iff_not];split<;>omega
  have c2:decide ((if w<hh then hh else w)>1000)=false:=by rw[decide_eq_false_iff_not];split<;>omega
  have c3:decide ((l.length:Int)>8)=false:=by rw[decide_eq_false_iff_not];omega
  cases r3 with
  |true=>
   simp only[go_sem,↓aC,seval,c1,c2,c3,g3,List.length_map,List.drop_succ_cons,List.drop_zero,List.take_succ_cons,List.take_zero,beq_self_eq_true];exact⟨_,rfl⟩
  |false=>
  cases r4 with
  |true=>
   simp only[go_sem,↓aC,seval,c1,c2,c3,g3,g4,List.length_map,List.drop_succ_cons,List.drop_zero,List.take_succ_cons,List.take_zero,beq_self_eq_true];exact⟨_,rfl⟩
  |false=>
  cases r5 with
  |true=>
   simp only[go_sem,↓aC,seval,c1,c2,c3,g3,g4,g5,List.length_map,List.drop_succ_cons,List.drop_zero,List.take_succ_cons,List.take_zero,beq_self_eq_true];exact⟨_,rfl⟩
  |false=>
  cases r6 with
  |true=>
   simp only[go_sem,↓aC,seval,c1,c2,c3,g3,g4,g5,g6,List.length_map,List.drop_succ_cons,List.drop_zero,List.take_succ_cons,List.take_zero,beq_self_eq_true];exact⟨_,rfl⟩
  |false=>
   simp only[go_sem,↓aC,seval,c1,c2,c3,g3,g4,g5,g6,List.length_map,List.drop_succ_cons,List.drop_zero,List.take_succ_cons,List.take_zero,beq_self_eq_true];exact⟨_,rfl⟩)
 exact⟨m,h1⟩
end
def zE(g:String->Nat):ACode:=.block 0 (qS [qbi 16 .eql 14 1,qm 15 16]<|qC 15 (qS [qf 17 2 1,qla 18 3 17,qc 19 (g "dactyl/formula.Valid") [u 18],qm 2 19]<|.ret) (qS [qbi 21 .eql 14 4,qm 20 21]<|qC 20 (qS [qf 22 8 1,qla 23 3 22,qc 24 (g "dactyl/plane.Valid") [u 23],qm 2 24]<|.ret) (.skip)))
def zF(g:String->Nat):AFn:=⟨25,[],[.tmp 2],qS [qx 1 13 0,qmc 2 (.int .i64 0)]<|.seq (qS [qla 4 13 1,qq 5 (.bsl 13 [(.int .i64 0),(.sl false []),(.int .i64 0),(.int .i64 0),(.sl false []),(.int .i64 0),(.sl false []),(.sl false []),(.int .i64 0),(.int .i64 0),(.sl false []),(.sl false []),(.sl false [])] 1 [(0,(.tmp 4))]),qq 6 (.build [(.str []),(.sl true []),(.sl true []),(.sl true [])] [(0,1,(.const (.str [97]))),(1,1,(.tmp 5))]),qq 7 (.bsl 4 [(.str []),(.sl false []),(.sl false []),(.sl false [])] 1 [(0,(.tmp 6))]),qq 8 (.build [(.str []),(.sl true [])] [(0,1,(.const (.str [120]))),(1,1,(.tmp 7))]),qc 9 (g "dactyl/syntax.Valid") [u 8],qm 3 9]<|qS [qm 10 3,qbi 11 .neq 10 0]<|qC 11 (qS [qm 12 3,qm 2 12]<|.ret) (.skip))<|.seq (qS [qf 13 0 1,ql 14 1 13]<|zE g)<|qS [qmc 2 (.int .i64 0)]<|.ret⟩
section
variable {A:AProg}{g:String->Nat}{tB:Nat}
structure HasCheck(A:AProg)(g:String->Nat)(tB:Nat):Prop where
 valid:HasValid A g tB
 form:HasForm A g
 plane:HasPlane A g
 check:Has A g "dactyl/source.check" (zF g)
theorem aCw(h:HasCheck A g tB)(b:Block)(hb:b.Ok)(H:List AObj):∃e:Int,aL A (g "dactyl/source.check") [.agg (aE b)] H=some (vi e,H,[])/\(e=0->kT b=true/\(b.kind=1->aBB b.expr=0)):=by
 obtain⟨e0,h0,h0'⟩:=aLh h.valid b hb H;obtain⟨op,n,ks,hex⟩:∃op n ks,b.expr=Expr.mk op n ks:=by cases b.expr;exact⟨_,_,_,rfl⟩
 have hee:aF b.expr=[vi op,vi n,.sl false (ks.map aF)]:=by rw[hex,aF,aV]
 have hcb:aE b=[vi b.kind,.sl false (b.runs.map cW),vi op,vi n,.sl false (ks.map aF),vi b.sumOp,.sl false (b.sumA.map bD),.sl false (b.grid.map cA),vi b.w,vi b.h,.sl false (b.shapes.map bB),.sl false (b.hands.map cE),.sl false (b.lines.map aN)]:=by
  unfold aE;rw[hee];rfl
 have hfv:=aEB h.form b.expr hb.expr hb.size H;rw[hee]at hfv;simp only[eL,aJn,List.map_cons,List.map_nil,cG,hcb]at h0;obtain⟨v,H',wr,h1,rfl,rfl,e,rfl,h2⟩:=h.check.callEx (args:=[.agg (aE b)]) (H:=H) (K:=fun v H' wr=>wr=[]/\H'=H/\∃e:Int,v=vi e/\(e=0->kT b=true/\(b.kind=1->aBB b.expr=0))) (by simp[zF]) (by kernel_rfl) (by
  rw[hcb];simp only[zF];cases z:(e0 != 0)with
  |true=>
   have hz:e0≠0:=by simpa using z
   simp only[go_sem,↓aC,seval,h0,z,List.append_nil];exact⟨e0,rfl,fun e=>absurd e hz⟩
  |false=>
  have hz:e0=0:=by simpa using z
  subst hz;have hB:=h0' rfl;simp only[go_sem,↓aC,seval,h0,z];simp only[zE]
  by_cases k1:b.kind=1
  ·simp only[go_sem,↓aC,seval,k1,List.drop_succ_cons,List.drop_zero,List.take_succ_cons,List.take_zero,hfv,List.append_nil];exact⟨_,rfl,fun e=>⟨hB,fun _=>e⟩⟩
  have b1:(b.kind==1)=false:=by simpa using k1
  by_cases k4:b.kind=4
  ·have hk:aDf b=true:=by unfold kT at hB;simp only[Bool.and_eq_true]at hB;exact hB.2
   unfold aDf at hk;rw[if_neg (by omega),if_neg (by omega),if_neg (by omega),if_neg (by omega),if_pos k4]at hk
   simp only[Bool.and_eq_true,iP]at hk;obtain⟨⟨hw,hh⟩,⟨_,hlS⟩,hS⟩:=hk;obtain⟨e4,he4⟩:=aGY h.plane b.w b.h b.shapes hw hh (by omega) (List.all_eq_true.1 hS) H
   simp only[go_sem,↓aC,seval,k4,List.drop_succ_cons,List.drop_zero,List.take_succ_cons,List.take_zero,he4,List.append_nil];exact⟨_,rfl,fun e=>⟨hB,fun k=>k.elim⟩⟩
  have b4:(b.kind==4)=false:=by simpa using k4
  simp only[go_sem,↓aC,seval,b1,b4];exact⟨_,rfl,fun e=>⟨hB,fun k=>absurd k k1⟩⟩)
 exact⟨e,h1,h2⟩
end
end Go.AM
end
