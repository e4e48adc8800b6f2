/- Part 40: lemmas for the last text. -/
import Derived.Test.YtfpndhocfmfgdaaGreatDoorK16
import Derived.Test.YtfpndhocfmfgdaaGreatDoorK21
import Derived.Test.YtfpndhocfmfgdaaGreatDoorK28
import Derived.Test.YtfpndhocfmfgdaaGreatDoorK36
import Derived.Test.YtfpndhocfmfgdaaGreatDoorK39
set_option linter.unusedVariables false
set_option linter.unusedSimpArgs false
section
set_option maxRecDepth 8000
namespace Go.AM
open Go
theorem aPm{A:AProg}{g:String->Nat}(h:Has A g "dactyl/dactylref23.box" (mW g)){x y w hh:Int}(hx:0<=x/\x<=1000)(hy:0<=y/\y<=1000)(hw:0<=w/\w<=1000)(hh0:0<=hh/\hh<=1000)(H:List AObj):
  aL A (g "dactyl/dactylref23.box") [vi x,vi y,vi w,vi hh] H=some (.sl false ([(x,y),(x+w,y),(x+w,y+hh),(x,y+hh)].map bQ),H,[]):=by
 have h1:IntKind.i64.wrap (x+w)=x+w:=wrap_i64 (by omega) (by omega)
 have h2:IntKind.i64.wrap (y+hh)=y+hh:=wrap_i64 (by omega) (by omega)
 refine h.call (by simp[mW]) (by kernel_rfl) ?_
 simp only[mW];simp only[go_sem,seval,h1,h2,bQ]
abbrev P4(x y w h:Int):List (Int×Int):=[(x,y),(x+w,y),(x+w,y+h),(x,y+h)]
theorem aUx{x y w h:Int}(hx:0<=x/\x<=1000)(hy:0<=y/\y<=1000)(hw:0<=w/\w<=1000)(hh0:0<=h/\h<=1000){k:Int}(hk:0<=k/\k<=2):SOk (Shape.mk k (P4 x y w h)):=by
 refine⟨⟨bU hk.1 (by show k<=1000000;omega),by simp, ?_⟩,hk⟩
 intro p hp;simp only[List.mem_cons,List.not_mem_nil,or_false]at hp;rcases hp with rfl | rfl | rfl | rfl
 ·exact⟨bU hx.1 (by omega),bU hy.1 (by omega)⟩
 ·exact⟨bU (by show 0<=x+w;omega) (by show x+w<=1000000;omega),bU hy.1 (by omega)⟩
 ·exact⟨bU (by show 0<=x+w;omega) (by show x+w<=1000000;omega),bU (by show 0<=y+h;omega) (by show y+h<=1000000;omega)⟩
 ·exact⟨bU hx.1 (by omega),bU (by show 0<=y+h;omega) (by show y+h<=1000000;omega)⟩
set_option maxHeartbeats 6400000 in
theorem aLr{A:AProg}{g:String->Nat}(h:Has A g "(*dactyl/dactylref23.Maker).Figure" (eT g))(ht:fC A g)
  (hbx:∀{x y w hh:Int},(0<=x/\x<=1000)->(0<=y/\y<=1000)->(0<=w/\w<=1000)->(0<=hh/\hh<=1000)->∀H,aL A (g "dactyl/dactylref23.box") [vi x,vi y,vi w,vi hh] H=some (.sl false ((P4 x y w hh).map bQ),H,[])):
  cX A (g "(*dactyl/dactylref23.Maker).Figure") [] aKr:=by
 refine h.gen (by simp[eT]) (fun n=>by kernel_rfl) ?_
 intro l i o v H hl hlt ho;have hne:∀k,(H.length+k==o)=false:=fun k=>by simp;omega
 simp only[eT];simp only[go_sem,seval];refine bN (keep:=kC) (by rfl) (by rfl) ?_
 simp only[go_sem,seval,kC];refine dP (aU ht (m:=4) (by decide)) hl (i:=i) (by simp only[go_sem,seval,gQ,hlt,ho]) ?_
 rintro val i1 ⟨x1,rfl,hx0,hx1⟩;have w1:IntKind.i64.wrap (24+x1)=24+x1:=wrap_i64 (by omega) (by omega)
 simp only[go_sem,seval,hlt,gH,w1];refine dP (aU ht (m:=9) (by decide)) hl (i:=i1) (by simp only[go_sem,seval,aI,hlt]) ?_
 rintro val i2 ⟨x2,rfl,hx2,hx3⟩;have w2:IntKind.i64.wrap (30+x2)=30+x2:=wrap_i64 (by omega) (by omega)
 have hb1:=fun H=>hbx (x:=2) (y:=2) (w:=24+x1) (hh:=30+x2) (by decide) (by decide) (by omega) (by omega) H
 simp only[go_sem,seval,hlt,aK,w2,hb1,bP,fG,eB,hne,aR];refine aW (aU ht (m:=3) (by decide)) hl (i:=i2) (by simp only[go_sem,seval,aI,hlt]) ?_
 rintro val i3 ⟨x3,rfl,hx4,hx5⟩;simp only[go_sem,seval,hlt,aK];have s1:SOk (Shape.mk 2 (P4 2 2 (24+x1) (30+x2))):=aUx (by decide) (by decide) (by omega) (by omega) (by decide)
 refine aAP (W:=[23,24,25,26,27,28,29,30,31,32,33,34,35,36]) (fun _ H1 wr=>wr=[o]/\∃i' o5,∃S:List Shape,1<=S.length/\S.length<=2/\(∀a∈S,SOk a) /\
  H1=H.set o (.box v (aH l i'))++[.gone 0,.gone 0,.box 1 [vi 0,vi 0,.sl true []],.box 1 [vi 60,vi 50,.sr (H.length+4) 1 S.length],.vec 1 2 (S.map bB),o5,.gone 0,.gone 0,.gone 0]) (by rfl) (fun hb => ?_) (fun hb => ?_) ?_
 ·refine bN (keep:=kD) (by rfl) (by rfl) ?_
  simp only[go_sem,seval,kD];refine dP (aU ht (m:=5) (by decide)) hl (i:=i3) (by simp only[go_sem,seval,aI,hlt]) ?_
  rintro val i4 ⟨x4,rfl,hx6,hx7⟩;have w4:IntKind.i64.wrap (10+x4)=10+x4:=wrap_i64 (by omega) (by omega)
  simp only[go_sem,seval,hlt,aK,w4];refine dP (aU ht (m:=8) (by decide)) hl (i:=i4) (by simp only[go_sem,seval,aI,hlt]) ?_
  rintro val i5 ⟨x5,rfl,hx8,hx9⟩;have w5:IntKind.i64.wrap (12+x5)=12+x5:=wrap_i64 (by omega) (by omega)
  simp only[go_sem,seval,hlt,aK,w5,bP,fG,eB,hne,aR];refine⟨i5,_,[Shape.mk 2 (P4 2 2 (24+x1) (30+x2)),Shape.mk 0 [(10+x4,12+x5)]],by simp,by simp, ?_,rfl⟩
  intro a ha;simp only[List.mem_cons,List.not_mem_nil,or_false]at ha;rcases ha with rfl | rfl
  ·exact s1
  ·exact⟨⟨bU (by show (0:Int)<=0;decide) (by show (0:Int)<=1000000;decide),by simp,fun q hq=>by
    simp only[List.mem_cons,List.not_mem_nil,or_false]at hq;subst hq;exact⟨bU (by show 0<=10+x4;omega) (by show 10+x4<=1000000;omega),bU (by show 0<=12+x5;omega) (by show 12+x5<=1000000;omega)⟩⟩,by show (0:Int)<=0;decide,by show (0:Int)<=2;decide⟩
 ·simp only[go_sem,seval];exact⟨i3,_,[Shape.mk 2 (P4 2 2 (24+x1) (30+x2))],by simp,by simp,by intro a ha;simp only[List.mem_cons,List.not_mem_nil,or_false]at ha;subst ha;exact s1,rfl⟩
 rintro ρ2 H2 wr2 ⟨rfl,i6,o5,S,hS1,hS2,hS3,rfl⟩ hf2;have g0:ρ2 0=.ptr o v 0:=by rw[hf2 0 (by decide)];simp only[go_sem,seval]
 have g2:ρ2 2=.ptr (H.length+2) 1 0:=by rw[hf2 2 (by decide)];simp only[go_sem,seval]
 have g3:ρ2 3=.ptr (H.length+3) 1 0:=by rw[hf2 3 (by decide)];simp only[go_sem,seval]
 have g94:ρ2 94=.undef:=by rw[hf2 94 (by decide)];simp only[go_sem,seval]
 simp only[go_sem,seval,g0];refine aW (aU ht (m:=4) (by decide)) hl (i:=i6) (by simp only[go_sem,seval,aI,hlt]) ?_
 rintro val i7 ⟨x6,rfl,hx10,hx11⟩;have w6:IntKind.i64.wrap (36+x6)=36+x6:=wrap_i64 (by omega) (by omega)
 simp only[go_sem,seval,hlt,aK,w6];refine aW (aU ht (m:=2) (by decide)) hl (i:=i7) (by simp only[go_sem,seval,aI,hlt]) ?_
 rintro val i8 ⟨x7,rfl,hx12,hx13⟩;simp only[go_sem,seval,hlt,aK];have hsh:∀(a:Shape) (S:List Shape),S.map bB++[[vi a.kind,.sl false (a.points.map bQ)]]=(S++[a]).map bB:=fun a S=>by simp[bB]
 refine aAP (W:=[43,44,45,46,47,48,49,50,51,52,53,54,55,56,57,58,59,60,61,62,63,64,65,66,67,68,69,70]) (fun _ H1 wr=>wr=[o]/\∃i' o5 o6 o7,∃S:List Shape,2<=S.length/\S.length<=3/\(∀a∈S,SOk a) /\
  H1=H.set o (.box v (aH l i'))++[.gone 0,.gone 0,.box 1 [vi 0,vi 0,.sl true []],.box 1 [vi 60,vi 50,.sr (H.length+4) 1 S.length],.vec 1 2 (S.map bB),o5,o6,o7,.gone 0]) (by rfl) (fun hb => ?_) (fun hb => ?_) ?_
 ·refine bN (keep:=kE) (by rfl) (by rfl) ?_
  have w7:IntKind.i64.wrap (36+x6+8)=36+x6+8:=wrap_i64 (by omega) (by omega)
  simp only[go_sem,seval,kE,g0,g3,w7];refine dP (aU ht (m:=6) (by decide)) hl (i:=i8) (by simp only[go_sem,seval,aI,hlt]) ?_
  rintro val i9 ⟨x8,rfl,hx14,hx15⟩;have w8:IntKind.i64.wrap (10+x8)=10+x8:=wrap_i64 (by omega) (by omega)
  have hr:bP (S.length+1) 32=true:=by unfold bP;simp;omega
  have hsu:=hsh ⟨1,[(36+x6,4),(36+x6+8,10+x8),(36+x6,30)]⟩ S;simp only[List.map,bQ]at hsu;simp only[go_sem,seval,hlt,aK,w8,hr,hsu,fG,eB,hne,aR];refine⟨i9,_,_,_,S++[⟨1,[(36+x6,4),(36+x6+8,10+x8),(36+x6,30)]⟩],by simp;omega,by simp;omega, ?_,by simp only[List.length_append,List.length_cons,List.length_nil,Nat.zero_add];rfl⟩
  intro a ha;rcases List.mem_append.mp ha with ha | ha
  ·exact hS3 a ha
  ·simp only[List.mem_cons,List.not_mem_nil,or_false]at ha;subst ha;refine⟨⟨bU (by show (0:Int)<=1;decide) (by show (1:Int)<=1000000;decide),by simp,fun q hq => ?_⟩,by show (0:Int)<=1;decide,by show (1:Int)<=2;decide⟩
   simp only[List.mem_cons,List.not_mem_nil,or_false]at hq;rcases hq with rfl | rfl | rfl
   ·exact⟨bU (by show 0<=36+x6;omega) (by show 36+x6<=1000000;omega),bU (by show (0:Int)<=4;decide) (by show (4:Int)<=1000000;decide)⟩
   ·exact⟨bU (by show 0<=36+x6+8;omega) (by show 36+x6+8<=1000000;omega),bU (by show 0<=10+x8;omega) (by show 10+x8<=1000000;omega)⟩
   ·exact⟨bU (by show 0<=36+x6;omega) (by show 36+x6<=1000000;omega),bU (by show (0:Int)<=30;decide) (by show (30:Int)<=1000000;decide)⟩
 ·refine bN (keep:=kF) (by rfl) (by rfl) ?_
  simp only[go_sem,seval,kF,g0,g3];refine dP (aU ht (m:=12) (by decide)) hl (i:=i8) (by simp only[go_sem,seval,aI,hlt]) ?_
  rintro val i9 ⟨x8,rfl,hx14,hx15⟩;have w8:IntKind.i64.wrap (12+x8)=12+x8:=wrap_i64 (by omega) (by omega)
  have hr:bP (S.length+1) 32=true:=by unfold bP;simp;omega
  have hb2:=fun H=>hbx (x:=36+x6) (y:=5) (w:=10) (hh:=12+x8) (by omega) (by decide) (by decide) (by omega) H
  have hsu:=hsh ⟨2,P4 (36+x6) 5 10 (12+x8)⟩ S;simp only[List.map]at hsu hb2;simp only[go_sem,seval,hlt,aK,w8,hb2,hr,hsu,fG,eB,hne,aR];refine⟨i9,_,_,_,S++[⟨2,P4 (36+x6) 5 10 (12+x8)⟩],by simp;omega,by simp;omega, ?_,by simp only[List.length_append,List.length_cons,List.length_nil,Nat.zero_add];rfl⟩
  intro a ha;rcases List.mem_append.mp ha with ha | ha
  ·exact hS3 a ha
  ·simp only[List.mem_cons,List.not_mem_nil,or_false]at ha;subst ha;exact aUx (by omega) (by decide) (by decide) (by omega) (by decide)
 rintro ρ3 H3 wr3 ⟨rfl,i9,o5',o6,o7,T,hT1,hT2,hT3,rfl⟩ hf3;have e0:ρ3 0=.ptr o v 0:=by rw[hf3 0 (by decide)];simp only[go_sem,seval,g0]
 have e2:ρ3 2=.ptr (H.length+2) 1 0:=by rw[hf3 2 (by decide)];simp only[go_sem,seval,g2]
 have e3:ρ3 3=.ptr (H.length+3) 1 0:=by rw[hf3 3 (by decide)];simp only[go_sem,seval,g3]
 have e94:ρ3 94=.undef:=by rw[hf3 94 (by decide)];simp only[go_sem,seval,g94]
 clear hf2 hf3;simp only[go_sem,seval,e0];refine aW (aU ht (m:=3) (by decide)) hl (i:=i9) (by simp only[go_sem,seval,aI,hlt]) ?_
 rintro val i10 ⟨x9,rfl,hx16,hx17⟩;simp only[go_sem,seval,hlt,aK];refine aD (fun hb => ?_) (fun hb => ?_)
 ·simp only[go_sem,seval];refine bN (keep:=kG) (by rfl) (by rfl) ?_
  simp only[go_sem,seval,kG,e0,e3];refine dP (aU ht (m:=20) (by decide)) hl (i:=i10) (by simp only[go_sem,seval,aI,hlt]) ?_
  rintro val i11 ⟨x10,rfl,hx18,hx19⟩;have w10:IntKind.i64.wrap (36+x10)=36+x10:=wrap_i64 (by omega) (by omega)
  have hr:bP (T.length+1) 32=true:=by unfold bP;simp;omega
  simp only[go_sem,seval,e3,hlt,aK,w10,hr,fG,eB,hne,aR];have w11:IntKind.i64.wrap (((T.length+1:Nat):Int) - 1)=(T.length:Int):=by rw[wrap_i64 (by omega) (by omega)];omega
  have hix:(T.map bB++[[AV.int IntKind.i64 1,AV.sr H.length 1 2]])[T.length]? = some [AV.int IntKind.i64 1,AV.sr H.length 1 2]:=by simp
  rw[w11];refine bN (keep:=kH) (by rfl) (by rfl) ?_
  have w12:IntKind.i64.wrap (36+x10+3)=36+x10+3:=wrap_i64 (by omega) (by omega)
  have hset:∀x y,(T.map bB++[x]).set T.length y=T.map bB++[y]:=fun x y=>by simp
  have hsu:=hsh ⟨1,[(36,44),(36+x10+3,44)]⟩ T;simp only[List.map,bQ]at hsu;have hlen:(T++[Shape.mk 1 [(36,44),(36+x10+3,44)]]).length=T.length+1:=by simp
  simp only[go_sem,seval,kH,e2,e3,hix,Int.toNat_natCast,w12,hset,hsu,hlt,hlen,List.length_map,aO (aB bR (T++[Shape.mk 1 [(36,44),(36+x10+3,44)]])),aS,aA (aB bR _),aA (aB aP _)];refine⟨⟨i11,rfl⟩,60,50,T++[Shape.mk 1 [(36,44),(36+x10+3,44)]],rfl,bU (by decide) (by decide),bU (by decide) (by decide),by simp;omega,by simp;omega, ?_⟩
  intro a ha;rcases List.mem_append.mp ha with ha | ha
  ·exact hT3 a ha
  ·simp only[List.mem_cons,List.not_mem_nil,or_false]at ha;subst ha;refine⟨⟨bU (by show (0:Int)<=1;decide) (by show (1:Int)<=1000000;decide),by simp,fun q hq => ?_⟩,by show (0:Int)<=1;decide,by show (1:Int)<=2;decide⟩
   simp only[List.mem_cons,List.not_mem_nil,or_false]at hq;rcases hq with rfl | rfl
   ·exact⟨bU (by decide) (by decide),bU (by decide) (by decide)⟩
   ·exact⟨bU (by show 0<=36+x10+3;omega) (by show 36+x10+3<=1000000;omega),bU (by show (0:Int)<=44;decide) (by show (44:Int)<=1000000;decide)⟩
 ·simp only[go_sem,seval,e3,e94,e2,hlt,aO (aB bR T),aS,aA (aB bR _),aA (aB aP _)];exact⟨⟨i10,rfl⟩,60,50,T,rfl,bU (by decide) (by decide),bU (by decide) (by decide),hT1,by omega,hT3⟩
structure DiffFns(A:AProg)(g:String->Nat):Prop where
 law:Has A g "dactyl/dactyllaw25.SourceDifferent" (dV g)
 exam:Has A g "dactyl/dactylref23.Exam" (lR g)
 spoilt:Has A g "dactyl/dactylref23.Spoilt" (jN g)
 spoiltB:Has A g "dactyl/dactylref23.spoiltBlock" (fF g)
 spoiltQ:Has A g "dactyl/dactylref23.spoiltQuestion" (eA g)
 blocks:Has A g "dactyl/dactylref25.Blocks" (jO g)
 around:Has A g "dactyl/dactylref01.Around" (jM g)
 decimal:Has A g "dactyl/dactylref23.Decimal" (iJ g)
 take:Has A g "(*dactyl/dactylref23.Maker).Take" (fQ g)
 block:Has A g "(*dactyl/dactylref23.Maker).Block" (fE g)
 fact:Has A g "(*dactyl/dactylref23.Maker).Fact" (fV g)
 has:Has A g "dactyl/dactylref23.has" (mX g)
 question:Has A g "(*dactyl/dactylref23.Maker).Question" (dZ g)
 at':Has A g "dactyl/dactylref01.At" (lH g)
 runs:Has A g "(*dactyl/dactylref23.Maker).Runs" (fR g)
 expr:Has A g "(*dactyl/dactylref23.Maker).Expr" (fU g)
 sum:Has A g "(*dactyl/dactylref23.Maker).Sum" (gE g)
 grid:Has A g "(*dactyl/dactylref23.Maker).Grid" (fS g)
 figure:Has A g "(*dactyl/dactylref23.Maker).Figure" (eT g)
 melody:Has A g "(*dactyl/dactylref23.Maker).Melody" (eU g)
 lines:Has A g "(*dactyl/dactylref23.Maker).Lines" (fD g)
 phrase:Has A g "(*dactyl/dactylref23.Maker).Phrase" (eS g)
 term:Has A g "(*dactyl/dactylref23.Maker).term" (fT g)
 box:Has A g "dactyl/dactylref23.box" (mW g)
 arity:Has A g "dactyl/dactylref23.Arity" (kR g)
 same:HasSame A g
 text:aCB A g
 lives:∀H,aL A (g "dactyl/dactyllaw25.lives") [] H=some (.bool true,H,[])
theorem aUy{A:AProg}{g:String->Nat}(F:DiffFns A g):Gens A g:=by
 have ha:=rC F.around;have ht:=aNe F.take F.at' ha;have hp:=aLk F.phrase ht;have hr:=aPd F.runs ht hp;have har:=fun op H=>aLl F.arity op H;have htm:=fun d hd=>aKp F.term ht har d hd;have hbx:∀{x y w hh:Int},(0<=x/\x<=1000)->(0<=y/\y<=1000)->(0<=w/\w<=1000)->(0<=hh/\hh<=1000)->∀H,aL A (g "dactyl/dactylref23.box") [vi x,vi y,vi w,vi hh] H=some (.sl false ((P4 x y w hh).map bQ),H,[]):=
  fun h1 h2 h3 h4 H=>aPm F.box h1 h2 h3 h4 H
 exact⟨ht,fun h0 h1=>aNo F.block hr (aPh F.expr ht htm) (aRS F.sum ht) (aPf F.grid ht hp) (aLr F.figure ht hbx) (aLn F.melody ht) (aNl F.lines ht) h0 h1,
  fun hb _ h0 h1=>aPi F.fact ht hb h0 h1,fun l hl f=>aPj F.has l hl f,fun hm=>aIu F.question ht hp hr (aIq F.decimal) hm⟩
theorem aJz{A:AProg}{g:String->Nat}(F:DiffFns A g):LawSpecs25 A g where
 exam:=fun hl H=>by
  obtain⟨v,H',wr,h1,rfl,rfl,x,rfl,hx,hs⟩:=aNt F.exam (aUy F) hl H;exact⟨x,h1,hx,hs⟩
 spoilt:=fun hx hs _ _ _ h1 h2 H=>by
  obtain⟨v,H',wr,h3,rfl,rfl,x',rfl,hx'⟩:=aJw F.spoilt (rC F.around) (fun h1 h2 _ _ h3 H=>aIw F.spoiltB (rC F.around) h1 h2 h3 H) (fun h1 h2 _ _ h3 H=>aIv F.spoiltQ (rC F.around) h1 h2 h3 H) hx hs h1 h2 H;exact⟨x',h3,hx'⟩
 blocks:=fun hx H=>aJx F.blocks hx H
 around:=rC F.around
 text:=F.text
 same:=aMx F.same
 lives:=F.lives
theorem aNx{A:AProg}{g:String->Nat}(F:DiffFns A g){l m:List Int}(hl:gD l)(hm:gD m){at' how by':Int}(hat:dN at')(hby:dN by')(H:List AObj):
  aL A (g "dactyl/dactyllaw25.SourceDifferent") [.sl false (l.map bD),.sl false (m.map bD),vi at',vi how,vi by'] H=some (.bool true,H,[]):=
 aXn F.law (aJz F) hl hm hat hby H
def eK(g:String->Nat):AFn:=⟨21,[14,20],[.tmp 6],qS [qmc 6 (.sl true [])]<|qS [qm 8 1,qq 9 (.conv (.toInt .u64) (u 8)),qm 7 9]<|.seq (qS [qm 10 1,qbi 11 .lss 10 0]<|qC 11 (qS [qm 12 0,qq 13 (.bsl 1 [(.int .u8 0)] 1 [(0,(.const (.int .u8 45)))]),qa 14 1 1 12 13,qm 0 14]<|.region false [qm 15 7,qq 16 (.un .neg (u 15)),qm 7 16]) (.skip))<|qS [qm 17 0,qm 18 7,qm 19 2,qq 20 (.callr (uf (g "internal/strconv.AppendUint")) [(.tmp 17),(.tmp 18),(.tmp 19)]),qm 6 20]<|.ret⟩
theorem aKv:∀(k n:Nat),n<10 ^ (k+1)->oT (k+1) n=dec n
 |0,n,h=>by
  have h':n<10:=by simpa using h
  rw[dec,oT,if_pos h',if_pos h']
 |k+1,n,h=>by
  rw[dec,oT]
  split
  ·rfl
  ·rw[aKv k (n / 10) (by rw[Nat.pow_succ]at h;omega)]
section
variable {A:AProg}{g:String->Nat}
theorem aIy(hp:A.prim (g "internal/strconv.AppendUint")=some nT){n:Int}(h0:0<=n)(h9:n<=999999):fL A (g "internal/strconv.AppendUint") [.int .u64 n,vi 10] (dec n.toNat):=by
 intro H t v hb ht;have e7:oT 7 n.toNat=dec n.toNat:=aKv 6 _ (by have:(10:Nat) ^ (6+1)=10000000:=(by decide);omega)
 cases hb with
 |nil=>
  refine (nR (n:=0) ?_);unfold cT qE;rw[hp]
  show (match nT [.sl true [],.int .u64 n,.int .i64 10] H with | some r=>some (dA H r) | none=>_)=_
  simp only[nT];rw[if_pos ⟨h0,by omega,trivial⟩,e7]
  simp[dA,fZ];rfl
 |obj id ver t ho=>
  refine (nR (n:=0) ?_);unfold cT qE;rw[hp]
  show (match nT [.sr id ver t.length,.int .u64 n,.int .i64 10] H with | some r=>some (dA H r) | none=>_)=_
  simp only[nT,ho];rw[if_pos ⟨trivial,jJ t,h0,by omega,by omega,trivial,aCm t⟩,e7]
  simp only[dA,fZ,List.append_nil,List.map_cons,List.map_nil,uS];rfl
abbrev aYh:List AObj:=[.gone 0,.gone 0]
theorem aIz(h:Has A g "internal/strconv.AppendInt" (eK g))(hp:A.prim (g "internal/strconv.AppendUint")=some nT){n:Int}(h0:0<=n)(h9:n<=999999):
  fL A (g "internal/strconv.AppendInt") [vi n,vi 10] (dec n.toNat):=by
 intro H t v hb ht;obtain⟨v1,H1,wr1,h1,h2⟩:=h.callEx (args:=[v,vi n,vi 10]) (H:=H) (K:=fun v' H'' wr'=>some (v',H'',wr')=oD H t (dec n.toNat) v) (by simp[eK]) (by kernel_rfl) (by
  have hw:IntKind.u64.wrap n=n:=by
   unfold IntKind.wrap;simp[IntKind.bits,IntKind.signed];omega
  have hn:decide (n<0)=false:=by rw[decide_eq_false_iff_not];omega
  obtain⟨o,ver,hat,hcl⟩:=hb.call (L:=aYh) (i:=1) ht (by decide) (aIy hp h0 h9)
  simp only[eK];simp only[go_sem,↓aC,seval,pG,hw,hn,hcl];exact hat.done rfl _)
 rw[h1,h2]
theorem aJA(h:Has A g "strconv.AppendInt" (nL g))(hi:Has A g "internal/strconv.AppendInt" (eK g))(hp:A.prim (g "internal/strconv.AppendUint")=some nT):zY A g:=by
 intro n h0 h9 H t v hb ht;obtain⟨v1,H1,wr1,h1,h2⟩:=h.callEx (args:=[v,vi n,vi 10]) (H:=H) (K:=fun v' H'' wr'=>some (v',H'',wr')=oD H t (dec n.toNat) v) (by simp[nL]) (by kernel_rfl) (by
  obtain⟨o,ver,hat,hcl⟩:=hb.call (L:=[.gone 0]) (i:=0) ht (by decide) (aIz hi hp h0 h9)
  rw[Nat.add_zero]at hcl;simp only[nL];simp only[go_sem,↓aC,seval,hcl];exact hat.done rfl _)
 rw[h1,h2]
end
set_option maxRecDepth 100000
def aUz:List (String×Nat)->String->Nat
 | [],_=>100000
 | (a,n)::r,s=>if a=s then n else aUz r s
def aXo:List (String×Nat):=[("(*dactyl/dactylref23.Maker).Take",11),
 ("dactyl/formula.put",105),
 ("dactyl/dactylref01.Int",170),
 ("dactyl/dactylref01.Around",7),
 ("(*dactyl/syntax.printer).line",138),
 ("dactyl/dactylref01.Ints",173),
 ("dactyl/syntax.within",128),
 ("strconv.Itoa",79),
 ("dactyl/dactylref01.Bytes",234),
 ("(*strings.Builder).WriteString",123),
 ("(*dactyl/dactylref23.Maker).Phrase",37),
 ("dactyl/dactylref01.Strings",174),
 ("dactyl/dactylref23.Decimal",38),
 ("(*dactyl/dactylref23.Maker).term",85),
 ("dactyl/plane.segments$1",209),
 ("strings.Join",84),
 ("dactyl/plane.on",151),
 ("dactyl/dactylref23.has",14),
 ("(*strings.Builder).copyCheck",178),
 ("dactyl/dactylref23.Exam",4),
 ("(*dactyl/syntax.printer).word",140),
 ("dactyl/plane.turn",211),
 ("dactyl/dactylref23.box",86),
 ("dactyl/syntax.isName$1",182),
 ("(*dactyl/dactylref23.Maker).Runs",30),
 ("dactyl/dactylref23.encodeExpr",172),
 ("dactyl/dactylref23.encodeRuns",171),
 ("(*dactyl/syntax.printer).numbers",142),
 ("dactyl/syntax.Same",9),
 ("dactyl/dactylref23.Spoilt",6),
 ("(*dactyl/dactylref23.Maker).Fact",13),
 ("(*dactyl/dactylref23.Maker).Block",12),
 ("(*dactyl/dactylref23.Maker).Question",15),
 ("(*strings.Builder).WriteByte",144),
 ("dactyl/plane.sign",212),
 ("dactyl/dactylref25.Blocks",5),
 ("strings.Count",213),
 ("dactyl/dactylref23.encodeFigure",175),
 ("dactyl/plane.Valid$2",96),
 ("dactyl/syntax.upTo$1",252),
 ("dactyl/syntax.isText",87),
 ("dactyl/dactylref23.Arity",125),
 ("dactyl/syntax.isText$1",127),
 ("dactyl/syntax.sameExpr",71),
 ("(*dactyl/dactylref23.Maker).Expr",31),
 ("slices.ContainsFunc[[]dactyl/api.Expr,dactyl/api.Expr]",145),
 ("dactyl/syntax.isName$2",183),
 ("(*dactyl/dactylref23.Maker).Figure",34),
 ("(*dactyl/syntax.printer).text",139),
 ("dactyl/syntax.isRuns$1",243),
 ("(*strings.Builder).String",124),
 ("dactyl/dactylref23.spoiltQuestion",17),
 ("(*strings.byteStringReplacer).Replace",355),
 ("dactyl/dactylref01.At",29),
 ("dactyl/dactylref23.EncodeBlock",119),
 ("(*dactyl/dactylref23.Maker).Grid",33),
 ("strings.NewReplacer",110),
 ("(*dactyl/dactylref23.Maker).Sum",32),
 ("dactyl/dactylref23.encodeMelody",176),
 ("(*dactyl/dactylref23.Maker).Melody",35),
 ("slices.Equal[[]string,string]",74),
 ("dactyl/dactylref23.spoiltBlock",16),
 ("(*strings.Replacer).Replace",111),
 ("dactyl/syntax.isShape$1",255),
 ("(*dactyl/dactylref23.Maker).Lines",36),
 ("strconv.AppendInt",154),
 ("dactyl/plane.segments",148),
 ("dactyl/formula.Depth",92),
 ("dactyl/syntax.isShape",197),
 ("(*strings.Replacer).buildOnce",164),
 ("dactyl/formula.right",93),
 ("(*strings.Replacer).build",231),
 ("slices.Index[[]int,int]",245),
 ("(*strings.Builder).Len",204),
 ("dactyl/syntax.upTo",195),
 ("dactyl/formula.Valid",40),
 ("dactyl/syntax.formula",206),
 ("internal/strconv.AppendInt",215),
 ("dactyl/syntax.isExpr",188),
 ("internal/strconv.AppendUint",267),
 ("dactyl/formula.Size",91),
 ("dactyl/syntax.all[byte]",126),
 ("dactyl/formula.right$1",146),
 ("dactyl/syntax.kids",244),
 ("(*sync.Once).Do",163),
 ("dactyl/syntax.isNote",261),
 ("slices.AppendSeq[[]dactyl/plane.segment,dactyl/plane.segment]",210),
 ("dactyl/dactylref01.Same",118),
 ("dactyl/plane.Valid$5",100),
 ("dactyl/syntax.isMelody$1",257),
 ("dactyl/source.Text",8),
 ("dactyl/dactyllaw25.SourceDifferent",3),
 ("dactyl/plane.Valid$4",98),
 ("dactyl/plane.Valid$3",97),
 ("slices.Equal[[]dactyl/api.Run,dactyl/api.Run]",70),
 ("slices.Contains[[]int,int]",189),
 ("dactyl/plane.Simple",103),
 ("dactyl/syntax.sameBlock",23),
 ("dactyl/syntax.isBlock$2",193),
 ("dactyl/source.ways",19),
 ("dactyl/syntax.all[string]",194),
 ("(*dactyl/syntax.printer).hands",207),
 ("dactyl/syntax.isItem",89),
 ("(*dactyl/syntax.printer).runs",205),
 ("(*sync.Once).doSlow",230),
 ("dactyl/syntax.isName",131),
 ("dactyl/syntax.isMelody$1$1",259),
 ("internal/stringslite.IndexByte",220),
 ("dactyl/syntax.isBlock$1",191),
 ("strings.ReplaceAll",104),
 ("dactyl/plane.shaped",99),
 ("dactyl/plane.Valid$6",102),
 ("slices.Collect[dactyl/plane.segment]",150),
 ("dactyl/syntax.isBlock",133),
 ("slices.EqualFunc[[]dactyl/api.Expr,[]dactyl/api.Expr,dactyl/api.Expr,dactyl/api.Expr]",117),
 ("dactyl/syntax.only",186),
 ("dactyl/syntax.isRuns",187),
 ("dactyl/syntax.sameBlock$1",65),
 ("(*strings.Builder).Grow",122),
 ("dactyl/syntax.all[[]string]",192),
 ("dactyl/source.ways$1",42),
 ("strings.Replace",153),
 ("slices.Equal[[]int,int]",72),
 ("dactyl/plane.Valid",41),
 ("dactyl/source.ways$8",57),
 ("internal/stringslite.Index",160),
 ("dactyl/source.writeGrid",54),
 ("dactyl/source.ways$3",46),
 ("strings.Index",108),
 ("dactyl/source.writeRuns",43),
 ("dactyl/source.writeLines",62),
 ("dactyl/source.check",18),
 ("dactyl/source.writeNote",165),
 ("dactyl/source.ways$10",61),
 ("dactyl/source.writeSum",50),
 ("dactyl/source.ways$4",49),
 ("(*sync/atomic.Bool).Load",229),
 ("dactyl/plane.meet",152),
 ("dactyl/syntax.sameBlock$2",67),
 ("dactyl/syntax.source",90),
 ("slices.Equal[[]dactyl/api.Note,dactyl/api.Note]",69),
 ("dactyl/dactyllaw25.lives",10),
 ("dactyl/source.ways$6",53),
 ("dactyl/syntax.Valid",39),
 ("(*dactyl/syntax.printer).block",141),
 ("dactyl/plane.Valid$1",94),
 ("dactyl/formula.Text",47),
 ("dactyl/syntax.sameQuestion",26),
 ("dactyl/source.writeMelody",58),
 ("dactyl/syntax.all[dactyl/api.Run]",242),
 ("dactyl/syntax.isMelody",198),
 ("dactyl/syntax.Same$1",21),
 ("dactyl/syntax.all[dactyl/api.Point]",254),
 ("dactyl/source.writeBar",114),
 ("dactyl/syntax.all[dactyl/api.Item]",88),
 ("slices.ContainsFunc[[]dactyl/api.Point,dactyl/api.Point]",101),
 ("dactyl/syntax.all[dactyl/api.Question]",136),
 ("slices.ContainsFunc[[]dactyl/api.Shape,dactyl/api.Shape]",95),
 ("slices.EqualFunc[[]dactyl/api.Block,[]dactyl/api.Block,dactyl/api.Block,dactyl/api.Block]",22),
 ("slices.EqualFunc[[][]dactyl/api.Note,[][]dactyl/api.Note,[]dactyl/api.Note,[]dactyl/api.Note]",68),
 ("slices.EqualFunc[[]dactyl/api.Shape,[]dactyl/api.Shape,dactyl/api.Shape,dactyl/api.Shape]",75),
 ("dactyl/source.ways$11",63),
 ("slices.Equal[[]dactyl/api.Point,dactyl/api.Point]",66),
 ("slices.Equal[[]dactyl/api.Fact,dactyl/api.Fact]",24),
 ("dactyl/syntax.all[dactyl/api.Block]",132),
 ("internal/bytealg.IndexString",221),
 ("slices.EqualFunc[[]dactyl/api.Item,[]dactyl/api.Item,dactyl/api.Item,dactyl/api.Item]",20),
 ("dactyl/syntax.isFact",135),
 ("dactyl/source.ways$2",44),
 ("dactyl/source.ways$7",55),
 ("dactyl/syntax.all[dactyl/api.Note]",260),
 ("dactyl/syntax.all[int]",190),
 ("dactyl/source.ways$5",51),
 ("dactyl/source.ways$9",59),
 ("slices.EqualFunc[[][]string,[][]string,[]string,[]string]",73),
 ("dactyl/syntax.all[dactyl/api.Shape]",196),
 ("slices.EqualFunc[[][][]dactyl/api.Note,[][][]dactyl/api.Note,[][]dactyl/api.Note,[][]dactyl/api.Note]",76),
 ("dactyl/source.readFormula",48),
 ("dactyl/syntax.all[[][]dactyl/api.Note]",256),
 ("dactyl/syntax.all[[]dactyl/api.Note]",258),
 ("dactyl/syntax.isQuestion",137),
 ("dactyl/syntax.all[dactyl/api.Fact]",134),
 ("slices.EqualFunc[[]dactyl/api.Question,[]dactyl/api.Question,dactyl/api.Question,dactyl/api.Question]",25),
 ("(*dactyl/syntax.printer).question",143),
 ("strings.makeSingleStringReplacer",278),
 ("unicode/utf8.DecodeRuneInString",214),
 ("strings.makeGenericReplacer",279),
 ("internal/bytealg.Cutover",222),
 ("internal/bytealg.IndexRabinKarp[string]",223)]
def gZ(s:String):Nat:=aUz aXo s
end Go.AM
end
