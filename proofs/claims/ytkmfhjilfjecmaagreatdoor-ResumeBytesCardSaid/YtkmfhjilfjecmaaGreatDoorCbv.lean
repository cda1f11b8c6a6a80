/- A part of the proof of ResumeBytes. -/
import Derived.Test.YtkmfhjilfjecmaaGreatDoorCbu
set_option maxRecDepth 100000
set_option maxHeartbeats 8000000
set_option linter.unusedVariables false
set_option linter.unusedSimpArgs false
namespace Go.Opn
noncomputable section
open Go.Cre Go.RowKit Go.Proofs
theorem Acc.one{w:Value}{k e:Nat}{cells:List Value}{aY:aN}(h:Acc e 1 w k cells aY)(bE:z0 aY)(aP:mH aY)(aa:1<=k):∃a rest,aY=[(a,.opn cells e rest 0)]/\w=.slice (some ⟨a,0,none⟩) k cZ/\cells.length=k:=by
 cases h with
 |nil=>omega
 |kt a=>omega
 |@opn a k cells rest z av BN=>
  have:z=0:=bE _ _ _ _ _ (.head _);subst this;exact⟨a,rest,rfl,rfl,by omega⟩
 |cap=>exact absurd (List.Mem.head _) (aP _ _ _)
theorem I7{L:List Int}{v:Int}:L.map (Value.int .i64)++[Value.int .i64 v]=(L++[v]).map (Value.int .i64):=by simp
theorem Zo{L:List Int}{u v:Int}{n:Nat}(h:L.length=n):(L++[u]).set n v=L++[v]:=by subst h;simp
theorem mS.put{P:Nat->List Int->Prop}{J:aH}{cells:List Value}{S:List (List Int)}{r:List Int}{w:Value}(h:mS P J S.length cells S)(aa:dI J w r)(ae:P S.length r):mS P J (S++[r]).length (cells++[w]) (S++[r]):=by
 rw[dP,tl];exact h.app aa ae
section
variable {Q:dD Tryz.prog}{g0:Nat}{J:aH}
open Classical in
theorem Uh{g:bq}{aT aK ez:Option Addr}{aQ ci fi:Nat}{S:List (List Int)}{p:Int}(hw:jg g)(aq:fH J g aT aQ aK ci)(ix:fc J 22 1 (jW J) (.slice ez S.length fi) S)(ax:wR g S):
 Fn (bd Q g0) 59 [hb g aT aQ aK ci,.slice ez S.length fi,.int .i64 p] [] J (fun u m' af=>J.le af/\m'=[]/\∃vf qa F5 vk De my,u=.tuple #[.slice vf (sw g S p).length qa,.slice F5 g.ns.length vk,.slice De g.is.length my]/\fc af 22 1 (jW af) (.slice vf (sw g S p).length qa) (sw g S p)/\dI af (.slice F5 g.ns.length vk) (gz g g.ns.length).2/\dI af (.slice De g.is.length my) (gS g S p g.is.length).2):=by
 have fX:addrEq aK aK=true:=aq.i.addr;have gq:addrEq aT aT=true:=aq.n.addr;have E5:addrEq ez ez=true:=ix.addr;obtain⟨_,fE⟩:=aq.n.at;obtain⟨_,kx⟩:=aq.i.at;have bX:=hw.bX;have de:=hw.de;have i2:=hw.i2;have Bf:=ax.1.1;obtain⟨bO,off,EO,ne,rfl,tS,j0⟩:=fE (by omega);refine Fn.cH (cM Tryz.func59) rfl rfl fun H=>?_;refine rg ?_;refine dK fun a3=>?_;refine aM ?_;refine bi ?_;refine I V.az ?_;refine ns ?_;refine ab.block ?_;refine' ab.c0 (l':=[(6,(.slice none 0 0)),(7,(.slice none 0 0)),(9,.int .i64 ((0):Int)),(1,_),(2,_),(3,_),(8,_)]) ⟨?nv,?yq,?p3,rfl,rfl,rfl,rfl,trivial⟩ (bu _) ?_;case nv=>exact bP
 case yq=>exact bP
 case p3=>exact bP
 refine aj ?_;refine' ab.dF (fun(bC:Nat×Value×(List Value)×aN×Value×aN)=>match bC with|(i,v6,d6,m6,CG,m7)=>⟨[(6,v6),(7,CG),(9,.int .i64 (i:Int))],m6++(m7++[dh a3 g (some ⟨bO,off,none⟩) aQ aK ci]),J,i<=g.ns.length/\Acc 22 1 v6 (gz g i).1.length d6 m6/\mS (fun _ _=>True) J (gz g i).1.length d6 (gz g i).1/\Acc 3 1 CG i ((gz g i).2.map (Value.int .i64)) m7/\z0 m7/\mH m7,g.ns.length -i⟩) ⟨0,.slice none 0 0,[],[],.slice none 0 0,[]⟩ ?hs ?bA
 case hs=>exact⟨cy _,.nil,mS.nil,.nil,MJ,LF⟩
 case bA=>
  rintro⟨i,v6,d6,m6,CG,m7⟩ hinv;try simp only at hinv
  obtain⟨ao,xo,Bd,G4,Ql,PI⟩:=hinv;obtain⟨Dh,Dw,rfl,anm⟩:=xo.iN;obtain⟨TJ,Up,rfl,ann⟩:=G4.iN;refine rg ?_;refine aM ?_;refine I V.bJ ?_;refine I V.bL ?_;refine I V.aZ ?_;refine ns ?_;refine If (fun re=>?_) fun re=>?_
  ·obtain⟨x,Gw,U,gU,iz,mZ⟩:=j0 i (by omega) (by omega);obtain⟨b1,c1,b2,c2,b3,c3,rfl,eG,gM,gA⟩:=mZ;have Hy:=iz 0 _ (by decide) rfl;have atd:=iz 4 _ (by decide) rfl;rw[cx] at U;obtain⟨Px,aiG,_⟩:=AP hw i (by omega);refine c7 ?_;refine aj ?_;refine ab.block ?_;refine rg ?_;refine I V.ag ?_;refine jK (e0 Q g0) fun k6=>?_;refine' W.step rfl (.of (Aj rfl rfl rfl rfl rfl rfl (e0 Q g0) (pZ Q g0) (fun i q=>by cases q) ?cw ?hm ?U ?cr ?ca ?av fun Jk LA Bj Ic=>?_));case cw=>assumption
   case hm=>exact jz (r:=m7++((k6,.row [.int .i64 (-1)] 3)::(m6++[dh a3 g (some ⟨bO,off,none⟩) aQ aK ci])))
   case U=>exact hR
   case cr=>first|rfl|(simp;done)|(simp;omega)
   case ca=>first|rfl|exact hf _
   case av=>exact cc
   rw[I7] at Bj;obtain⟨cT,rest,rfl,rfl,hE⟩:=Bj.one (Ic.1 Ql) (Ic.2 PI) (by omega);refine I V.az ?_;refine bi ?_;refine I V.ba ?_;refine I V.bJ ?_;refine I V.ag ?_;refine I V.aW ?_;refine I V.ba ?_;refine I V.bJ ?_;refine I V.aZ ?_;refine ns ?_;refine If (fun jL=>?_) fun jL=>?_
   ·refine rg ?_;refine aM ?_;refine I V.aW ?_;refine' W.step rfl (.of (Ak rfl rfl rfl rfl (fQ rfl) rfl rfl rfl ?aa ?hs ?bE ?au ?_));case au=>exact .refl ((cT,_)::((k6,.row [.int .i64 (-1)] 3)::(m6++[dh a3 g (some ⟨bO,off,none⟩) aQ aK ci])))
    case hs=>exact jA i (by simp;omega)
    case aa=>first|rfl|assumption
    case bE=>exact cy _
    refine a6 ?_;rw[Zo Px];refine rg ?_;refine aM ?_;refine I V.bJ ?_;refine I V.ag ?_;refine I V.aW ?_;refine I V.ba ?_;refine I V.bJ ?_;refine jK (nt Q g0) fun a40=>?_;refine' W.step rfl (.of (kk rfl rfl rfl rfl rfl rfl (nt Q g0) (CF Q g0) (fun i q=>by cases q) ?cw ?hm ?U ?cr ?ca ?av fun apV Iu ahw=>?_));case cw=>exact xo
    case hm=>exact jz (r:=m6++((a40,.row [.slice b2 x.ws.length c2] 22)::((cT,.opn (((gz g i).2++[((gz g i).1.length:Int)]).map (Value.int .i64)) 3 [] 0)::((k6,.row [.int .i64 (-1)] 3)::[dh a3 g (some ⟨bO,off,none⟩) aQ aK ci]))))
    case U=>exact hR
    case cr=>first|rfl|(simp;done)|(simp;omega)
    case ca=>first|rfl|exact hf _
    case av=>exact cc
    refine I V.az ?_;refine a6 ?_;first
      |refine ab.eC (m':=Iu++([(cT,.opn (((gz g i).2++[((gz g i).1.length:Int)]).map (Value.int .i64)) 3 [] 0)]++[dh a3 g (some ⟨bO,off,none⟩) aQ aK ci])) (h2:=[(a40,.row [.slice b2 x.ws.length c2] 22),(k6,.row [.int .i64 (-1)] 3)]) (jz (r:=Iu++((a40,.row [.slice b2 x.ws.length c2] 22)::((cT,.opn (((gz g i).2++[((gz g i).1.length:Int)]).map (Value.int .i64)) 3 [] 0)::((k6,.row [.int .i64 (-1)] 3)::[dh a3 g (some ⟨bO,off,none⟩) aQ aK ci]))))) ?_
      |refine ab.eC (m':=m6++([(cT,.opn (((gz g i).2++[-1]).map (Value.int .i64)) 3 rest 0)]++[dh a3 g (some ⟨bO,off,none⟩) aQ aK ci])) (h2:=[(k6,.row [.int .i64 (-1)] 3)]) (jz (r:=[(cT,.opn (((gz g i).2++[-1]).map (Value.int .i64)) 3 rest 0)]++((k6,.row [.int .i64 (-1)] 3)::(m6++[dh a3 g (some ⟨bO,off,none⟩) aQ aK ci])))) ?_
    refine rg ?_;refine I V.ag ?_;refine I V.bt ?_;refine I V.az ?_;refine a6 ?_;refine cB ⟨i+1,apV,d6++[.slice b2 x.ws.length c2],Iu,.slice (some ⟨cT,0,none⟩) (i+1) cZ,[(cT,.opn (((gz g i).2++[((gz g i).1.length:Int)]).map (Value.int .i64)) 3 [] 0)]⟩ ?_;show _/\_;rw[Ny U];unfold I';rw[aE jL];exact⟨by omega,by rw[dP];exact ahw,Bd.put gM trivial,.opn (by simp;omega) (cy _),CQ,x8⟩
   ·refine aj ?_;refine ab.skip ?_;first
      |refine ab.eC (m':=Iu++([(cT,.opn (((gz g i).2++[((gz g i).1.length:Int)]).map (Value.int .i64)) 3 [] 0)]++[dh a3 g (some ⟨bO,off,none⟩) aQ aK ci])) (h2:=[(a40,.row [.slice b2 x.ws.length c2] 22),(k6,.row [.int .i64 (-1)] 3)]) (jz (r:=Iu++((a40,.row [.slice b2 x.ws.length c2] 22)::((cT,.opn (((gz g i).2++[((gz g i).1.length:Int)]).map (Value.int .i64)) 3 [] 0)::((k6,.row [.int .i64 (-1)] 3)::[dh a3 g (some ⟨bO,off,none⟩) aQ aK ci]))))) ?_
      |refine ab.eC (m':=m6++([(cT,.opn (((gz g i).2++[-1]).map (Value.int .i64)) 3 rest 0)]++[dh a3 g (some ⟨bO,off,none⟩) aQ aK ci])) (h2:=[(k6,.row [.int .i64 (-1)] 3)]) (jz (r:=[(cT,.opn (((gz g i).2++[-1]).map (Value.int .i64)) 3 rest 0)]++((k6,.row [.int .i64 (-1)] 3)::(m6++[dh a3 g (some ⟨bO,off,none⟩) aQ aK ci])))) ?_
    refine rg ?_;refine I V.ag ?_;refine I V.bt ?_;refine I V.az ?_;refine a6 ?_;refine cB ⟨i+1,.slice Dh (gz g i).1.length Dw,d6,m6,.slice (some ⟨cT,0,none⟩) (i+1) cZ,[(cT,.opn (((gz g i).2++[-1]).map (Value.int .i64)) 3 rest 0)]⟩ ?_;show _/\_;rw[Ny U];unfold I';rw[an jL];exact⟨by omega,xo,Bd,.opn (by simp;omega) (cy _),CQ,x8⟩
  ·refine aj ?_;refine ab.exit ?_;refine rg ?_;refine I V.az ?_;refine ns ?_;refine ab.block ?_;refine aj ?_;obtain rfl:i=g.ns.length:=by omega
   refine G4.hQ (jz (r:=m7++(m6++[dh a3 g (some ⟨bO,off,none⟩) aQ aK ci]))) fun Ar lP ajM=>?_;refine' ab.c0 (l':=[(6,(.slice Dh (gz g g.ns.length).1.length Dw)),(8,(.slice none 0 0)),(10,.int .i64 ((0):Int)),(1,_),(2,_),(3,_),(7,_)]) ⟨?nv,?jC,?p1,rfl,rfl,rfl,rfl,trivial⟩ (bu _) ?_;case nv=>exact bP
   case jC=>exact bP
   case p1=>exact bP
   refine aj ?_;refine' ab.dF (fun(bC:Nat×Value×(List Value)×aN×Value×aN)=>match bC with|(i,v6,d6,m6,CG,m7)=>⟨[(6,v6),(8,CG),(10,.int .i64 (i:Int))],m6++(m7++[dh a3 g (some ⟨bO,off,none⟩) aQ aK ci]),Ar,i<=g.is.length/\Acc 22 1 v6 (gS g S p i).1.length d6 m6/\mS (fun _ _=>True) Ar (gS g S p i).1.length d6 (gS g S p i).1/\Acc 3 1 CG i ((gS g S p i).2.map (Value.int .i64)) m7/\z0 m7/\mH m7,g.is.length -i⟩) ⟨0,.slice Dh (gz g g.ns.length).1.length Dw,d6,m6,.slice none 0 0,[]⟩ ?hs ?bA
   case hs=>exact⟨cy _,xo,Bd.mono lP,.nil,MJ,LF⟩
   case bA=>
    rintro⟨i,v6,d6,m6,CG,m7⟩ hinv;try simp only at hinv
    obtain⟨ao,xo,Bd,G4,Ql,PI⟩:=hinv;obtain⟨Dh,Dw,rfl,anm⟩:=xo.iN;obtain⟨TJ,Up,rfl,ann⟩:=G4.iN;refine rg ?_;refine aM ?_;refine I V.bJ ?_;refine I V.bL ?_;refine I V.aZ ?_;refine ns ?_;refine If (fun ty=>?_) fun ty=>?_
    ·obtain⟨g',jx,vl,vu,rfl,mD,me⟩:=kx (by omega);obtain⟨y,xa,ai,ub,mf,rfl⟩:=me i (by omega) (by omega);have KY:=mf 0 _ (by decide) rfl;rw[cx] at ai;obtain⟨wX,x',NE,NW,r,jn,ks,rfl,Hb,aw,HE,oi⟩:=qJ ix (i:=i) (by omega) (by omega);rw[cx] at aw;have oi:=oi.mono lP;have mD:=lP _ _ mD;have Hb:=lP _ _ Hb;obtain⟨Px,aiG,_⟩:=y0 hw ax (p:=p) i (by omega);refine c7 ?_;refine aj ?_;refine ab.block ?_;refine rg ?_;refine I V.ag ?_;refine jK (e0 Q g0) fun oJ=>?_;refine' W.step rfl (.of (Aj rfl rfl rfl rfl rfl rfl (e0 Q g0) (pZ Q g0) (fun i q=>by cases q) ?cw ?hm ?U ?cr ?ca ?av fun avp aua VK W6=>?_));case cw=>assumption
     case hm=>exact jz (r:=m7++((oJ,.row [.int .i64 (-1)] 3)::(m6++[dh a3 g (some ⟨bO,off,none⟩) aQ (some ⟨g',jx,none⟩) ci])))
     case U=>exact hR
     case cr=>first|rfl|(simp;done)|(simp;omega)
     case ca=>first|rfl|exact hf _
     case av=>exact cc
     rw[I7] at VK;obtain⟨cT,rest,rfl,rfl,hE⟩:=VK.one (W6.1 Ql) (W6.2 PI) (by omega);refine I V.az ?_;refine bi ?_;refine I V.ba ?_;refine I V.bJ ?_;refine I V.ag ?_;refine I V.aW ?_;refine I V.ba ?_;refine I V.bJ ?_;refine I V.ag ?_;refine I V.aZ ?_;refine ns ?_;refine If (fun iv=>?_) fun iv=>?_
     ·refine rg ?_;refine aM ?_;refine I V.aW ?_;refine' W.step rfl (.of (Ak rfl rfl rfl rfl (fQ rfl) rfl rfl rfl ?aa ?hs ?bE ?au ?_));case au=>exact .refl ((cT,_)::((oJ,.row [.int .i64 (-1)] 3)::(m6++[dh a3 g (some ⟨bO,off,none⟩) aQ (some ⟨g',jx,none⟩) ci])))
      case hs=>exact jA i (by simp;omega)
      case aa=>first|rfl|assumption
      case bE=>exact cy _
      refine a6 ?_;rw[Zo Px];refine rg ?_;refine aM ?_;refine I V.aW ?_;refine I V.bJ ?_;refine jK (nt Q g0) fun a70=>?_;refine' W.step rfl (.of (kk rfl rfl rfl rfl rfl rfl (nt Q g0) (CF Q g0) (fun i q=>by cases q) ?cw ?hm ?U ?cr ?ca ?av fun ap2 Iv ahx=>?_));case cw=>exact xo
      case hm=>exact jz (r:=m6++((a70,.row [.slice jn r.length ks] 22)::((cT,.opn (((gS g S p i).2++[((gS g S p i).1.length:Int)]).map (Value.int .i64)) 3 [] 0)::((oJ,.row [.int .i64 (-1)] 3)::[dh a3 g (some ⟨bO,off,none⟩) aQ (some ⟨g',jx,none⟩) ci]))))
      case U=>exact hR
      case cr=>first|rfl|(simp;done)|(simp;omega)
      case ca=>first|rfl|exact hf _
      case av=>exact cc
      refine I V.az ?_;refine a6 ?_;first
        |refine ab.eC (m':=Iv++([(cT,.opn (((gS g S p i).2++[((gS g S p i).1.length:Int)]).map (Value.int .i64)) 3 [] 0)]++[dh a3 g (some ⟨bO,off,none⟩) aQ (some ⟨g',jx,none⟩) ci])) (h2:=[(a70,.row [.slice jn r.length ks] 22),(oJ,.row [.int .i64 (-1)] 3)]) (jz (r:=Iv++((a70,.row [.slice jn r.length ks] 22)::((cT,.opn (((gS g S p i).2++[((gS g S p i).1.length:Int)]).map (Value.int .i64)) 3 [] 0)::((oJ,.row [.int .i64 (-1)] 3)::[dh a3 g (some ⟨bO,off,none⟩) aQ (some ⟨g',jx,none⟩) ci]))))) ?_
        |refine ab.eC (m':=m6++([(cT,.opn (((gS g S p i).2++[-1]).map (Value.int .i64)) 3 rest 0)]++[dh a3 g (some ⟨bO,off,none⟩) aQ (some ⟨g',jx,none⟩) ci])) (h2:=[(oJ,.row [.int .i64 (-1)] 3)]) (jz (r:=[(cT,.opn (((gS g S p i).2++[-1]).map (Value.int .i64)) 3 rest 0)]++((oJ,.row [.int .i64 (-1)] 3)::(m6++[dh a3 g (some ⟨bO,off,none⟩) aQ (some ⟨g',jx,none⟩) ci])))) ?_
      refine rg ?_;refine I V.ag ?_;refine I V.bt ?_;refine I V.az ?_;refine a6 ?_;refine cB ⟨i+1,ap2,d6++[.slice jn r.length ks],Iv,.slice (some ⟨cT,0,none⟩) (i+1) cZ,[(cT,.opn (((gS g S p i).2++[((gS g S p i).1.length:Int)]).map (Value.int .i64)) 3 [] 0)]⟩ ?_;show _/\_;rw[Nx ai aw];unfold I9;rw[aE iv];exact⟨by omega,by rw[dP];exact ahx,Bd.put oi trivial,.opn (by simp;omega) (cy _),CQ,x8⟩
     ·refine aj ?_;refine ab.skip ?_;first
        |refine ab.eC (m':=Iv++([(cT,.opn (((gS g S p i).2++[((gS g S p i).1.length:Int)]).map (Value.int .i64)) 3 [] 0)]++[dh a3 g (some ⟨bO,off,none⟩) aQ (some ⟨g',jx,none⟩) ci])) (h2:=[(a70,.row [.slice jn r.length ks] 22),(oJ,.row [.int .i64 (-1)] 3)]) (jz (r:=Iv++((a70,.row [.slice jn r.length ks] 22)::((cT,.opn (((gS g S p i).2++[((gS g S p i).1.length:Int)]).map (Value.int .i64)) 3 [] 0)::((oJ,.row [.int .i64 (-1)] 3)::[dh a3 g (some ⟨bO,off,none⟩) aQ (some ⟨g',jx,none⟩) ci]))))) ?_
        |refine ab.eC (m':=m6++([(cT,.opn (((gS g S p i).2++[-1]).map (Value.int .i64)) 3 rest 0)]++[dh a3 g (some ⟨bO,off,none⟩) aQ (some ⟨g',jx,none⟩) ci])) (h2:=[(oJ,.row [.int .i64 (-1)] 3)]) (jz (r:=[(cT,.opn (((gS g S p i).2++[-1]).map (Value.int .i64)) 3 rest 0)]++((oJ,.row [.int .i64 (-1)] 3)::(m6++[dh a3 g (some ⟨bO,off,none⟩) aQ (some ⟨g',jx,none⟩) ci])))) ?_
      refine rg ?_;refine I V.ag ?_;refine I V.bt ?_;refine I V.az ?_;refine a6 ?_;refine cB ⟨i+1,.slice Dh (gS g S p i).1.length Dw,d6,m6,.slice (some ⟨cT,0,none⟩) (i+1) cZ,[(cT,.opn (((gS g S p i).2++[-1]).map (Value.int .i64)) 3 rest 0)]⟩ ?_;show _/\_;rw[Nx ai aw];unfold I9;rw[an iv];exact⟨by omega,xo,Bd,.opn (by simp;omega) (cy _),CQ,x8⟩
    ·refine aj ?_;refine ab.exit ?_;obtain rfl:i=g.is.length:=by omega
     refine xo.hQ (.refl _) fun k0 kQ ajN=>?_;refine G4.hQ (.refl _) fun As o2 Qb=>?_;refine rg ?_;refine aM ?_;refine ns ?_;refine ab.ret ?_;refine c5 ?_;have Ko:=(AP hw _ (cW _)).1;have NV:=(y0 hw ax (p:=p) _ (cW _)).1;refine⟨lP.trans (kQ.trans o2),rfl,Dh,Dw,_,_,TJ,Up,rfl,((Bd.mono kQ).sA ajN).mono o2 fun _ _ q=>q.mono o2,?_,?_⟩
     ·exact⟨3,by rw[Ko];exact ajM.mono (kQ.trans o2)⟩
     ·exact⟨3,by rw[NV];exact Qb⟩
end
section
variable {K:eE}{B:dV}{R:u2}{ops:List Oper}{bc:List jF}{E:cf}{m m':aN}{J:aH}{o:Oper}{bH:cf->aN->aH->Prop}{i:Nat}
theorem dv.fP(ao:nth ops i=some o)(aq:o.guard=none)(h:hq K B o E m J fun E m J=>dv K B R ops bc E m J bH):dv K B R ops (.bR i::bc) E m J bH:=by
 intro S H ax aJ;obtain⟨bn,H1,l2,m1,dO,aa,ae,aF,bo⟩:=h S H ax aJ;obtain⟨aS,H',E',m',af,bl,bp,bQ,cU⟩:=bo bn H1 ae aF;refine⟨aS,H',E',m',af,?_,bp,bQ,cU⟩;show jy ops i (fun o=>kr (dL K.P _ _ ops bc) (one K.P _ _ ops S H o))=_;unfold jy;rw[ao];show kr (dL K.P _ _ ops bc) (one K.P _ _ ops S H o)=_;unfold one;rw[show fD ops S.T o=some true by unfold fD;rw[aq]];show kr (dL K.P _ _ ops bc) (pP S H o.dst (cJ K.P _ _ S H o))=_;rw[aa];exact bl
end
section
variable {Q:dD Tryz.prog}{g0:Nat}{B:dV}{R:u2}{ops:List Oper}{bc:List jF}{n:Nat}{ds:e7}{l:List (Nat×Value)}{m m':aN}{J:aH}{o:Oper}{bH:cf->aN->aH->Prop}{i:Nat}
end
def M2(g:bq)(S:List (List Int))(p:Int)(x:cR)(v:Int):Prop:=(v=-1/\x.k≠1)\/∃a:Nat,v=(a:Int)/\∃l,(sw g S p)[a]?=some l/\FR l/\l.length=x.ak.length
theorem amQ{g:bq}{S:List (List Int)}{p:Int}(hw:jg g)(ax:wR g S){j:Nat}{x:cR}(U:g.ns[j]?=some x):∃v,(gz g g.ns.length).2[j]?=some v/\(x.k≠2->M2 g S p x v):=by
 obtain⟨aa,ae,aF,bo⟩:=AP hw g.ns.length (cW _);obtain⟨g1,g2⟩:=bo j x (eU U) U;have iX:=cb U;by_cases aO:x.k=1
 ·obtain⟨a,bm,a2⟩:=g1 aO
  refine⟨a,bm,fun _=>.inr ⟨a,rfl,x.ws,?_,aF _ (cb a2),?_⟩⟩
  ·exact(y0 hw ax (p:=p) g.is.length (cW _)).2.2.2.1 a _ a2
  ·rcases hw.kind x iX with⟨bl,_⟩|⟨_,bp,_⟩|⟨bl,_⟩
   ·omega
   ·exact bp
   ·omega
 ·exact⟨-1,g2 aO,fun _=>.inl ⟨rfl,aO⟩⟩
theorem amO{g:bq}{S:List (List Int)}{p:Int}(hw:jg g)(ax:wR g S){x:cR}(U:x∈g.ns)(aO:x.k=2):∃i:Nat,x.i=(i:Int)/\i<g.is.length/\∃v,(gS g S p g.is.length).2[i]?=some v/\M2 g S p x v:=by
 rcases hw.kind x U with⟨bl,_⟩|⟨bl,_⟩|⟨_,bl,bp,bQ,cU,i,ao,ai⟩
 ·omega
 ·omega
 ·obtain⟨aa,ae,aF,eB,bo⟩:=y0 hw ax (p:=p) g.is.length (cW _)
  obtain⟨r,aw,rN,pH⟩:=ax.1.get ai;obtain⟨g1,g2⟩:=bo i _ r (eU ai) ai aw;refine⟨i,ao,eU ai,?_⟩;by_cases q:x.p=p
  ·exact⟨-1,g2 q,.inl ⟨rfl,by omega⟩⟩
  ·obtain⟨a,bm,a2⟩:=g1 q
   refine⟨a,bm,.inr ⟨a,rfl,r,a2,aF _ (cb a2),?_⟩⟩;simp only at rN;omega
def M1(g:bq)(S:List (List Int))(p:Int)(N:List Int):Prop:=N.length=(sw g S p).length/\∀(a:Nat) l v,(sw g S p)[a]?=some l->N[a]?=some v->0<=v/\v<l.sum
def FO(g:bq)(P:List Int):Prop:=∀(i:Nat) x v,g.ns[i]?=some x->P[i]?=some v->(v=-1/\x.k≠1)\/(0<=v/\v<x.ak.length)
theorem aet{l:List Int}{k:Nat}{n:Int}(bw:0<=n)(h:n<(l.drop k).sum):k<l.length:=by
 apply qW
 intro q;rw[Av (by omega)] at h;simp at h;omega
theorem FO.app{g:bq}{P:List Int}{x:cR}{v:Int}(h:∀(i:Nat) x v,g.ns[i]?=some x->P[i]?=some v->(v=-1/\x.k≠1)\/(0<=v/\v<x.ak.length))(U:g.ns[P.length]?=some x)(ay:(v=-1/\x.k≠1)\/(0<=v/\v<x.ak.length)):∀(i:Nat) x v',g.ns[i]?=some x->(P++[v])[i]?=some v'->(v'=-1/\x.k≠1)\/(0<=v'/\v'<x.ak.length):=fun i y v' ai v7=>by
 rcases vD v7 with q|⟨bb,a7⟩
 ·exact h i y v' ai q
 ·rw[bb,U] at ai;injection ai with ai;rw[<-ai,a7];exact ay
theorem TD{J:aH}{a n:Nat}{R:List Bool}(h:J a=some (R.map Value.bool,4))(av:R.length=n){i:Nat}(ao:i<n):∃b,R[i]?=some b/\nth (R.map Value.bool) (0+i*1)=some (.bool (decide (b=true))):=by
 have ap:=dj (l:=R) (i:=i) (by omega);refine⟨_,ap,?_⟩;rw[Sm];exact LK i ap (by omega)
section
variable {Q:dD Tryz.prog}{g0:Nat}{J:aH}
theorem acU{l:List Int}{b:Option Addr}{c:Nat}{n:Int}(av:dI J (.slice b l.length c) l)(hw:FR l)(lU:0<=n)(bX:n<l.sum):
 Fn (bd Q g0) 81 [.slice b l.length c,.int .i64 n] [] J (fun u m' af=>J=af/\m'=[]/\∃k:Nat,u=.int .i64 (k:Int)/\k<l.length):=by
 obtain⟨w0,eK,hi,jf,j4⟩:=hw;obtain⟨mw,i',oP,e,rfl,rs,ic⟩:=av.ja (by omega);refine Fn.cH (cM Tryz.func81) rfl rfl fun H=>?_;refine rg ?_;refine I V.az ?_;refine bi ?_;refine I V.az ?_;refine ns ?_;refine ab.block ?_;refine' ab.c0 (l':=[(1,.int .i64 (n)),(5,.int .i64 ((0):Int)),(0,_)]) ⟨?eK,?p2,rfl,trivial⟩ (bu _) ?_;case eK=>exact bP
 case p2=>exact bP
 refine aj ?_;refine' ab.rT (α:=(Nat)×(Int)) (fun(bC:(Nat)×(Int))=>match bC with|(k,r)=>[(1,.int .i64 r),(5,.int .i64 (k:Int))]) (fun(bC:(Nat)×(Int))=>match bC with|(k,r)=>k<=l.length/\0<=r/\r<=n/\r<(l.drop k).sum) (fun(bC:(Nat)×(Int))=>match bC with|(k,r)=>l.length -k) ⟨0,n⟩ ?hs ?bA
 case hs=>exact⟨cy _,lU,JB _,by rw[mr];exact bX⟩
 case bA=>
  rintro⟨k,r⟩ hinv;try simp only at hinv
  obtain⟨aO,nq,cO,aw⟩:=hinv;have Ps:=aet nq aw;obtain⟨x,U,e4⟩:=ic k Ps;have vZ:=ZH U;have kA:=w0 x (cb U);have Ex:=Ml w0 U;refine aj ?_;refine ab.block ?_;refine rg ?_;refine aM ?_;refine I V.aW ?_;refine I V.bJ ?_;refine I V.aZ ?_;refine ns ?_;refine If (fun p9=>?_) fun p9=>?_
  ·refine rg ?_;refine aM ?_;refine ns ?_;refine ab.ret ?_;refine c5 ?_;exact⟨rfl,rfl,k,rfl,Ps⟩
  ·refine aj ?_;refine ab.skip ?_;refine rg ?_;refine aM ?_;refine I V.aW ?_;refine I V.bJ ?_;refine I V.bt ?_;refine I V.az ?_;refine bi ?_;refine I V.ag ?_;refine I V.bt ?_;refine I V.az ?_;refine a6 ?_;refine'⟨⟨k+1,r -x⟩,_,?hinv,?ky,rfl,⟨?m1,?m5,rfl,trivial⟩,bu _,rfl⟩;case m1=>exact bP
   case m5=>exact bP
   case ky=>exact cc
   case hinv=>exact⟨by omega,by omega,by omega,by omega⟩
open Classical in
theorem amS{g:bq}{aT aK ez J7:Option Addr}{aQ ci fi T1:Nat}{S:List (List Int)}{p:Int}{N:List Int}(hw:jg g)(aq:fH J g aT aQ aK ci)(ix:fc J 22 1 (jW J) (.slice ez S.length fi) S)(ax:wR g S)(mZ:dI J (.slice J7 N.length T1) N)(Bb:M1 g S p N):
 Fn (bd Q g0) 62 [hb g aT aQ aK ci,.slice ez S.length fi,.int .i64 p,.slice J7 N.length T1] [] J (fun u m' af=>J.le af/\m'=[]/\∃b c P,u=.slice b g.ns.length c/\dI af u P/\P.length=g.ns.length/\FO g P):=by
 have fX:addrEq aK aK=true:=aq.i.addr;have gq:addrEq aT aT=true:=aq.n.addr;have E5:addrEq ez ez=true:=ix.addr;have auE:addrEq J7 J7=true:=mZ.addr;obtain⟨_,fE⟩:=aq.n.at;have bX:=hw.bX;have de:=hw.de;obtain⟨bO,off,EO,ne,rfl,tS,j0⟩:=fE (by omega);have Ko:=(AP hw _ (cW _)).1;have NV:=(y0 hw ax (p:=p) _ (cW _)).1;refine Fn.cH (cM Tryz.func62) rfl rfl fun H=>?_;refine rg ?_;refine dK fun a4=>?_;refine I V.az ?_;refine bi ?_;refine I V.gV ?_;refine aM ?_;refine cl (G:=Uh hw aq ix ax) (h:=?_);rintro v m' dO ch ⟨_,rfl,vf,qa,F5,vk,De,my,rfl,OD,Vs,Vt⟩;refine aM ?_;refine bi ?_;refine I V.az ?_;refine bi ?_;refine I V.az ?_;refine ns ?_;refine ab.block ?_;refine' ab.c0 (l':=[(12,(.slice none 0 0)),(13,.int .i64 ((0):Int)),(3,_),(4,_),(9,_),(10,_),(11,_)]) ⟨?uQ,?r9,rfl,rfl,rfl,rfl,rfl,trivial⟩ (bu _) ?_;case uQ=>exact bP
 case r9=>exact bP
 refine aj ?_;refine' ab.dF (fun(bC:Nat×Value×aN×(List Int))=>match bC with|(i,v,aY,P)=>⟨[(12,v),(13,.int .i64 (i:Int))],aY++[dh a4 g (some ⟨bO,off,none⟩) aQ aK ci],dO,i<=g.ns.length/\Acc 3 1 v i (P.map (Value.int .i64)) aY/\P.length=i/\FO g P,g.ns.length -i⟩) ⟨0,.slice none 0 0,[],[]⟩ ?hs ?bA
 case hs=>exact⟨cy _,.nil,rfl,fun i x v _ h=>by cases h⟩
 case bA=>
  rintro⟨i,v,aY,P⟩ hinv;try simp only at hinv
  obtain⟨ao,lc,sI,He⟩:=hinv;obtain⟨bv,gJ,rfl,Cn⟩:=lc.iN;refine rg ?_;refine aM ?_;refine I V.bJ ?_;refine I V.bL ?_;refine I V.aZ ?_;refine ns ?_;refine If (fun yY=>?_) fun yY=>?_
  ·obtain⟨x,Gw,U,gU,iz,Hd⟩:=j0 i (by omega) (by omega);obtain⟨b1,c1,b2,c2,b3,c3,rfl,eG,gM,gA⟩:=Hd;rw[cx] at U;have iX:=cb U;have bb:addrEq b1 b1=true:=eG.addr;have a7:addrEq b2 b2=true:=gM.addr;have b8:addrEq b3 b3=true:=gA.addr;have asG:=ch _ _ tS;obtain⟨v0,Le,ajo⟩:=amQ hw ax (p:=p) U;obtain⟨cT,aub,arz,ar',rfl,asw,aie⟩:=(show dI dO (.slice F5 (gz g g.ns.length).2.length vk) _ by rw[Ko];exact Vs).ja (by omega);obtain⟨apb,WO,aiV⟩:=aie i (by omega);obtain rfl:v0=apb:=by rw[Le] at WO;injection WO
   refine c7 ?_;refine aj ?_;refine ab.block ?_;refine rg ?_;refine I V.ba ?_;refine I V.bJ ?_;refine I V.ag ?_;refine I V.aW ?_;refine I V.gV ?_;refine' W.step rfl (.of (eT rfl rfl rfl (oB Q g0) rfl rfl rfl fun wU=>?_));refine dC ?_;refine bi ?_;refine aM ?_;refine I V.aW ?_;refine I V.bJ ?_;refine I V.az ?_;refine bi ?_;refine I V.ba ?_;refine I V.bJ ?_;refine I V.aZ ?_;refine a6 ?_;refine fR [14,15,42,3,4,9,10,11,12,13] ?_;refine aj ?_;refine' ab.y2 (α:=(Int)) 3 (fun(CI:Int)=>[(15,.int .i64 CI)]) (fun(CI:Int)=>qB wU x b1 c1 b2 c2 b3 c3::(aY++[dh a4 g (some ⟨bO,off,none⟩) aQ aK ci])) (fun(CI:Int)=>dO) (fun(CI:Int)=>M2 g S p x CI) ?ac2 ?ad5;case ac2=>
    refine If (fun vj=>?_) fun vj=>?_
    ·obtain⟨ii,pF,mE,v1,zu,ajp⟩:=amO hw ax (p:=p) iX vj;obtain⟨hr,auc,arA,asa,rfl,asx,aif⟩:=(show dI dO (.slice De (gS g S p g.is.length).2.length my) _ by rw[NV];exact Vt).ja (by omega);obtain⟨apc,WQ,aiW⟩:=aif ii (by omega);obtain rfl:v1=apc:=by rw[zu] at WQ;injection WQ
     rw[show ii=x.i.toNat by omega] at aiW;refine rg ?_;refine aM ?_;refine I V.bJ ?_;refine I V.aW ?_;refine I V.bJ ?_;refine I V.az ?_;refine a6 ?_;refine'⟨(v1),_,?hinv,rfl,⟨?m15,rfl,rfl,rfl,rfl,rfl,rfl,rfl,trivial⟩,rR,rfl⟩;case m15=>exact bP
     case hinv=>exact ajp
    ·refine aj ?_;refine ab.skip ?_;refine'⟨(v0),_,?hinv,rfl,⟨?m15,rfl,rfl,rfl,rfl,rfl,rfl,rfl,trivial⟩,rR,rfl⟩;case m15=>exact bP
     case hinv=>exact ajo vj
   case ad5=>
    rintro CI hinv;try simp only at hinv
    have fK:=hinv;refine rg ?_;refine I V.ag ?_;refine I V.aZ ?_;refine ns ?_;refine If (fun su=>?_) fun su=>?_
    ·have H8:x.k≠1:=by
        rcases fK with⟨aa,ae⟩|⟨a,aa,_⟩
        ·exact ae
        ·omega
     refine rg ?_;refine I V.ag ?_;refine jK (e0 Q g0) fun a51=>?_;refine' W.step rfl (.of (kk rfl rfl rfl rfl rfl rfl (e0 Q g0) (pZ Q g0) (fun i q=>by cases q) ?cw ?hm ?U ?cr ?ca ?av fun apZ alf VL=>?_));case cw=>assumption
     case hm=>exact jz (r:=aY++((a51,.row [.int .i64 (-1)] 3)::(qB wU x b1 c1 b2 c2 b3 c3::[dh a4 g (some ⟨bO,off,none⟩) aQ aK ci])))
     case U=>exact hR
     case cr=>first|rfl|(simp;done)|(simp;omega)
     case ca=>first|rfl|exact hf _
     case av=>exact cc
     refine I V.az ?_;refine ns ?_;refine ab.exit ?_;refine rg ?_;refine I V.ag ?_;refine I V.bt ?_;refine I V.az ?_;refine a6 ?_;refine cB ⟨i+1,apZ,alf,P++[-1]⟩ ?_ (hm:=q3 (bu _) (.cons _ (.cons _ (.refl _))))
     (rw[I7] at VL;exact⟨by omega,VL,by simp[sI],FO.app He (by rw[sI];exact U) (.inl ⟨rfl,H8⟩)⟩)
    ·obtain⟨FX,rfl,l,K0,xU,hE⟩:∃a:Nat,CI=(a:Int)/\∃l,(sw g S p)[a]?=some l/\FR l/\l.length=x.ak.length:=by
        rcases fK with⟨aa,ae⟩|h
        ·omega
        ·exact h
     have asT:=eU K0;obtain⟨da,alK,ac',jr,akJ,abO,acK,rfl,ag5,Wb,cr,Py⟩:=qJ OD (i:=FX) (by omega) (by omega);obtain rfl:l=akJ:=by rw[cx,K0] at Wb;injection Wb
     obtain⟨aqY,aug,arE,ase,rfl,asB,aik⟩:=(mZ.mono ch).ja (by rw[Bb.1];omega);obtain⟨fk,aiX,ats⟩:=aik FX (by rw[Bb.1];omega);obtain⟨alH,alI⟩:=Bb.2 FX l fk K0 aiX;have OI:=Bb.1;refine c7 ?_;refine aj ?_;refine ab.draw rfl (by kernel_rfl) (bc:=[.val 0,.val 1,.val 2,.val 3,.val 4,.val 5,.val 6,.val 7,.val 8,.bR 9,.gk 10,.cA [0],.bR 11,.bR 12]) (by kernel_rfl) ?_;refine cq ?_;refine al rfl V.aW ?_;refine al rfl V.bJ ?_;refine cq ?_;refine al rfl V.aW ?_;refine al rfl V.bJ ?_;refine dl rfl (G:=acU Py xU alH alI) (h:=?_);rintro avf m' e2 cF ⟨rfl,rfl,Xq,rfl,atf⟩;refine a8.buildSlice rfl rfl rfl rfl rfl rfl (e0 Q g0) rfl rfl rfl fun wV=>?_;refine a8.cA eX ?_;refine' a8.fP rfl rfl (kk rfl rfl rfl rfl rfl rfl (e0 Q g0) (pZ Q g0) (fun i q=>by cases q) ?cw ?hm ?U ?cr ?ca ?av fun ap1 alh VM=>?_);case cw=>assumption
     case hm=>exact jz (r:=aY++((wV,.row [.int .i64 (Xq:Int)] 3)::(qB wU x b1 c1 b2 c2 b3 c3::[dh a4 g (some ⟨bO,off,none⟩) aQ aK ci])))
     case U=>exact hR
     case cr=>first|rfl|(simp;done)|(simp;omega)
     case ca=>first|rfl|exact hf _
     case av=>exact cc
     refine FA rfl V.az ?_;refine a8.nil ?_;refine rg ?_;refine I V.ag ?_;refine I V.bt ?_;refine I V.az ?_;refine a6 ?_;refine cB ⟨i+1,ap1,alh,P++[(Xq:Int)]⟩ ?_ (hm:=q3 (bu _) (.cons _ (.cons _ (.refl _))))
     (rw[I7] at VM;exact⟨by omega,VM,by simp[sI],FO.app He (by rw[sI];exact U) (.inr (by omega))⟩)
  ·refine aj ?_;refine ab.exit ?_;obtain rfl:i=g.ns.length:=by omega
   refine lc.hQ (.refl _) fun As o2 Qb=>?_;refine rg ?_;refine aM ?_;refine ns ?_;refine ab.ret ?_;refine c5 ?_;exact⟨ch.trans o2,rfl,bv,gJ,P,rfl,⟨3,by rw[sI];exact Qb⟩,sI,He⟩
open Classical in
theorem anu{g:bq}{aT aK fI:Option Addr}{aQ ci fA:Nat}{P:List Int}(hw:jg g)(aq:fH J g aT aQ aK ci)(dt:dI J (.slice fI g.ns.length fA) P)(sI:P.length=g.ns.length):
 Fn (bd Q g0) 63 [hb g aT aQ aK ci,.slice fI g.ns.length fA] [] J (fun u m' af=>J.le af/\m'=[]/\∃(a:Nat) (R:List Bool),u=.slice (some ⟨a,0,none⟩) g.ns.length g.ns.length/\af a=some (R.map Value.bool,4)/\R.length=g.ns.length):=by
 have fX:addrEq aK aK=true:=aq.i.addr;have gq:addrEq aT aT=true:=aq.n.addr;obtain⟨_,fE⟩:=aq.n.at;have bX:=hw.bX;have de:=hw.de;obtain⟨bO,off,EO,ne,rfl,tS,j0⟩:=fE (by omega);obtain⟨yK,zJ,Gs,GG,rfl,Ha,aim⟩:=dt.ja (by omega);refine Fn.cH (cM Tryz.func63) rfl rfl fun H=>?_;refine rg ?_;refine dK fun a2=>?_;refine I V.az ?_;refine bi ?_;refine I V.ba ?_;refine I V.bJ ?_;refine I V.bL ?_;refine' W.step rfl (.of (p4 rfl rfl rfl rfl rfl (Rs Q g0) ?bw ?aa ?ae fun kL=>?_));case bw=>exact cc
 case aa=>exact cc
 case ae=>exact cc
 refine I V.az ?_;refine a6 ?_;rw[Sd,cx];refine rg ?_;refine I V.ag ?_;refine I V.aW ?_;refine' W.step rfl (.of (hy rfl rfl rfl rfl (fQ rfl) rfl rfl rfl ?aa ?hs ?au ?_));case au=>repeat first|exact .head _ _ _ _|apply cQ.tail|apply cQ.app
 case hs=>exact Fe (f:=Value.bool) 0 (by simp;omega)
 case aa=>first|rfl|assumption
 refine bi ?_;refine I V.az ?_;refine ns ?_;refine ab.block ?_;refine' ab.c0 (l':=[(6,.int .i64 ((0):Int)),(1,_),(2,_),(5,_)]) ⟨?nv,rfl,rfl,rfl,trivial⟩ (bu _) ?_;case nv=>exact bP
 refine aj ?_;refine' ab.dF (fun(bC:Nat×(List Bool))=>match bC with|(i,R)=>⟨[(6,.int .i64 (i:Int))],[(kL,.row (R.map Value.bool) 4),dh a2 g (some ⟨bO,off,none⟩) aQ aK ci],J,i<=g.ns.length/\R.length=g.ns.length,g.ns.length -i⟩) ⟨0,(List.replicate g.ns.length false).set 0 true⟩ ?hs ?bA
 case hs=>exact⟨cy _,by simp⟩
 case bA=>
  rintro⟨i,R⟩ hinv;try simp only at hinv
  obtain⟨ao,D3⟩:=hinv;refine rg ?_;refine aM ?_;refine I V.bJ ?_;refine I V.bL ?_;refine I V.aZ ?_;refine ns ?_;refine If (fun tx=>?_) fun tx=>?_
  ·obtain⟨x,Gw,U,gU,iz,mZ⟩:=j0 i (by omega) (by omega);obtain⟨b1,c1,b2,c2,b3,c3,rfl,eG,gM,gA⟩:=mZ;have zk:=iz 3 _ (by decide) rfl;rw[cx] at U;have sO:=hw.kids i x U;have K6:x.ak.length<=3:=by
    rcases hw.kind x (cb U) with⟨_,h,_⟩|⟨_,_,_,h,_⟩|⟨_,_,h,_⟩
    ·rw[h];simp
    ·exact h
    ·exact h
   obtain⟨L5,En,aiT⟩:=aim i (by omega);refine c7 ?_;refine aj ?_;refine ab.block ?_;refine rg ?_;refine I V.az ?_;refine ns ?_;refine ab.block ?_;refine' ab.c0 (l':=[(7,.int .i64 ((0):Int)),(1,_),(2,_),(5,_),(6,_)]) ⟨?yq,rfl,rfl,rfl,rfl,trivial⟩ (bu _) ?_;case yq=>exact bP
   refine aj ?_;refine' ab.dF (fun(bC:Nat×(List Bool))=>match bC with|(k,pp)=>⟨[(7,.int .i64 (k:Int))],[(kL,.row (pp.map Value.bool) 4),dh a2 g (some ⟨bO,off,none⟩) aQ aK ci],J,k<=x.ak.length/\pp.length=g.ns.length,x.ak.length -k⟩) ⟨0,R⟩ ?hs ?bA
   case hs=>exact⟨cy _,D3⟩
   case bA=>
    rintro⟨k,pp⟩ hinv;try simp only at hinv
    obtain⟨aO,qi⟩:=hinv;refine rg ?_;refine aM ?_;refine I V.bJ ?_;refine I V.ag ?_;refine I V.aW ?_;refine I V.ba ?_;refine I V.bJ ?_;refine I V.bL ?_;refine I V.aZ ?_;refine ns ?_;refine If (fun w7=>?_) fun w7=>?_
    ·obtain⟨mw,i',oP,ex,rfl,rs,ic⟩:=eG.ja (by omega);obtain⟨bK,fs,zo⟩:=ic k (by omega);have xA:=sO bK (cb fs);obtain⟨yT,rz,Wn⟩:∃b,pp[i]?=some b/\nth (pp.map Value.bool) (0+i*1)=some (.bool (decide (b=true))):=⟨_,dj (by omega),by rw[Sm];exact LK i (dj (by omega)) (by omega)⟩;refine c7 ?_;refine aj ?_;refine ab.block ?_;refine aj ?_;refine ab.DF [] rfl (by kernel_rfl) (bc:=[.val 0,.val 1,.val 2,.val 3,.val 4,.val 5,.val 6,.val 7,.val 8,.val 9,.val 10,.val 11,.val 12,.val 13,.val 14,.val 15,.val 16,.val 17,.val 18,.val 19,.val 20,.val 21,.val 22,.val 23,.val 24,.val 25,.val 26,.val 27,.val 28,.val 29,.bR 30]) (by kernel_rfl) ?_;refine dk rfl V.ag ?_;refine dk rfl V.ba ?_;refine dk rfl V.bJ ?_;refine dk rfl V.ag ?_;refine dk rfl V.aW ?_;refine dk rfl V.ba ?_;refine dk rfl V.bJ ?_;refine dk rfl V.ag ?_;refine dk rfl V.aW ?_;refine dk rfl V.bJ ?_;refine dk rfl V.ag ?_;refine dk rfl V.ag ?_;refine dk rfl V.aW ?_;refine dk rfl V.bJ ?_;refine dk rfl V.ag ?_;refine ts 46 (fun agK=>?_) fun agK=>?_
     ·refine df rfl V.ag ?_;refine df rfl V.ag ?_;refine df rfl V.aW ?_;refine df rfl V.bJ ?_;refine df rfl V.aZ ?_;refine df rfl V.ag ?_;refine ts 52 (fun agL=>?_) fun agL=>?_
      ·
        refine cg rfl ?_;refine cg rfl ?_;refine cg rfl ?_;refine cg rfl ?_;refine cg rfl ?_;refine cg rfl ?_;refine df rfl V.aU ?_;refine dk rfl V.aU ?_;refine dk rfl V.aW ?_;refine' dv.fP rfl rfl (hy rfl rfl rfl rfl (fQ rfl) rfl rfl rfl ?aa ?hs ?au ?_);case au=>repeat first|exact .head _ _ _ _|apply cQ.tail|apply cQ.app
        case hs=>exact Fe (f:=Value.bool) bK.toNat (by omega)
        case aa=>first|rfl|assumption
        refine dv.nil ?_;refine rg ?_;refine I V.ag ?_;refine I V.bt ?_;refine I V.az ?_;refine a6 ?_;refine cB ⟨k+1,_⟩ ?_;exact⟨by omega,by rw[fz];exact qi⟩
      ·
        refine df rfl V.ag ?_;refine df rfl V.ag ?_;refine df rfl V.aW ?_;refine df rfl V.bJ ?_;refine df rfl V.ag ?_;refine df rfl V.aZ ?_;refine df rfl V.aU ?_;refine dk rfl V.aU ?_;refine dk rfl V.aW ?_;refine' dv.fP rfl rfl (hy rfl rfl rfl rfl (fQ rfl) rfl rfl rfl ?aa ?hs ?au ?_);case au=>repeat first|exact .head _ _ _ _|apply cQ.tail|apply cQ.app
        case hs=>exact Fe (f:=Value.bool) bK.toNat (by omega)
        case aa=>first|rfl|assumption
        refine dv.nil ?_;refine rg ?_;refine I V.ag ?_;refine I V.bt ?_;refine I V.az ?_;refine a6 ?_;refine cB ⟨k+1,_⟩ ?_;exact⟨by omega,by rw[fz];exact qi⟩
     ·refine cg rfl ?_;refine cg rfl ?_;refine cg rfl ?_;refine cg rfl ?_;refine cg rfl ?_;refine cg rfl ?_;refine dv.oA rfl rfl rfl rfl rfl ?_;refine dv.oA rfl rfl rfl rfl rfl ?_;refine dv.oA rfl rfl rfl rfl rfl ?_;refine dv.oA rfl rfl rfl rfl rfl ?_;refine dv.oA rfl rfl rfl rfl rfl ?_;refine dv.oA rfl rfl rfl rfl rfl ?_;refine cg rfl ?_;refine dk rfl V.aU ?_;refine dk rfl V.aW ?_;refine' dv.fP rfl rfl (hy rfl rfl rfl rfl (fQ rfl) rfl rfl rfl ?aa ?hs ?au ?_);case au=>repeat first|exact .head _ _ _ _|apply cQ.tail|apply cQ.app
      case hs=>exact Fe (f:=Value.bool) bK.toNat (by omega)
      case aa=>first|rfl|assumption
      refine dv.nil ?_;refine rg ?_;refine I V.ag ?_;refine I V.bt ?_;refine I V.az ?_;refine a6 ?_;refine cB ⟨k+1,_⟩ ?_;exact⟨by omega,by rw[fz];exact qi⟩
    ·refine aj ?_;refine ab.exit ?_;refine rg ?_;refine I V.ag ?_;refine I V.bt ?_;refine I V.az ?_;refine a6 ?_;refine cB ⟨i+1,pp⟩ ?_;exact⟨by omega,qi⟩
  ·refine aj ?_;refine ab.exit ?_;refine ab.mJ rfl fun hle=>?_;refine rg ?_;refine aM ?_;refine ns ?_;refine ab.ret ?_;refine c5 ?_;exact⟨hle,rfl,kL,R,rfl,aH.oL _ _ _,D3⟩
end
end
end Go.Opn
