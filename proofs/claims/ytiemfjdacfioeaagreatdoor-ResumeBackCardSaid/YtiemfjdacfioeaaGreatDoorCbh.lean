/- A part of the proof of ResumeBack. -/
import Derived.Test.YtiemfjdacfioeaaGreatDoorCbg
set_option linter.unusedVariables false
set_option linter.unusedSimpArgs false
namespace Go.Opn
noncomputable section
open Go.Cre Go.RowKit
def hk(e:TypeId)(sz:Nat)(v:Value)(k:Nat)(cells:List Value)(aY:aO):Prop:=(Acc e sz v k cells aY/\z0 aY/\my aY)\/∃a full rest,RP e sz v k cells aY a full rest 0
theorem hk.form{e:TypeId}{sz k:Nat}{v:Value}{cells:List Value}{aY:aO}(h:hk e sz v k cells aY):(∃b,v=.slice b 0 0/\k=0/\cells=[]/\aY=[])\/∃a full rest,v=.slice (some ⟨a,0,none⟩) k c9/\aY=[(a,.opn full e rest 0)]/\full.take (k*sz)=cells/\k*sz<=full.length:=by
 rcases h with⟨h,bN,aP⟩|⟨a,full,rest,aa,ae,aG,br,eu⟩
 ·cases h with
  |nil=>exact .inl ⟨_,rfl,rfl,rfl,rfl⟩
  |kp a=>exact .inl ⟨_,rfl,rfl,rfl,rfl⟩
  |opn aa ae=>
   have:=bN _ _ _ _ _ (.head _);subst this;exact .inr ⟨_,_,_,rfl,rfl,by rw[<-aa,qV],by omega⟩
  |cap=>exact absurd (.head _) (aP _ _ _)
 ·exact .inr ⟨a,full,rest,aa,ae,br,by omega⟩
theorem hk.of{e:TypeId}{sz k a:Nat}{full:List Value}{rest:List Nat}(aU:k*sz<=full.length):hk e sz (.slice (some ⟨a,0,none⟩) k c9) k (full.take (k*sz)) [(a,.opn full e rest 0)]:=by
 by_cases q:k*sz=full.length
 ·refine .inl ⟨?_,fun bY c bG r z hm=>?_,fun bY c bG hm=>?_⟩
  ·have:=Acc.opn (a:=a) (e:=e) (rest:=rest) (z:=0) q.symm (cB _);rw[q,qV];exact this
  ·rcases fg.1 hm with q|q
   ·cases q;rfl
   ·cases q
  ·rcases fg.1 hm with q|q
   ·cases q
   ·cases q
 ·exact .inr ⟨a,full,rest,rfl,rfl,by omega,rfl,cB _⟩
theorem hk.row{e:TypeId}{sz k:Nat}{v:Value}{cells:List Value}{aY:aO}(h:hk e sz v k cells aY)(bD:0<k):∃a full rest,v=.slice (some ⟨a,0,none⟩) k c9/\aY=[(a,.opn full e rest 0)]/\full.take (k*sz)=cells/\k*sz<=full.length:=by
 rcases h.form with⟨b,_,q,_⟩|q
 ·omega
 ·exact q
section
variable {K:eL}{B:ea}{o:Oper}{n:Nat}{ds:e7}{l:List (Nat×Value)}{m m':aO}{J:aI}{eR:cn->aO->aI->Prop}{d:Nat}
theorem RF{c:Call}{t hy e:TypeId}{sz k j:Nat}{gf cells new:List Value}{v x:Value}{aY m0:aO}{hn:TypeDesc}(ar:o.op=.call c)(aH:c.callee=.builtin .append)(aZ:o.dst=some d)(aP:Nat.blt d n=true)(a':h5 l c.args.toList=some [v,x])(oY:c.argTypes.toList=[t,hy])(aD:jS K.P t=some (e,sz,gf))(jQ:K.P.underlying hy=some hn)(vL:∀i,hn≠.int i)
 (az:hk e sz v k cells aY)(hm:m.Perm (aY++m0))(U:mQ K.g0 B J m sz x j new)(cr:new.length=j*sz)(cc:new.all eQ=true)(ba:0<j)(av:k+j<=1000000)
 (h:∀w hF,hk e sz w (k+j) (cells++new) hF->eR ⟨n,ds,(d,w)::l⟩ (hF++m0) J):hZ K B o ⟨n,ds,l⟩ m J eR:=by
 rcases az with⟨az,aa,ae⟩|⟨a,full,rest,az⟩
 ·exact Ai ar aH aZ aP a' oY aD jQ vL az hm U cr cc av fun w hF q r=>h w hF (.inl ⟨q,r.1 aa,r.2 ae⟩)
 ·exact aps ar aH aZ aP a' oY aD jQ vL az hm U cr cc ba av fun w hF q cI ei=>h w hF (.inl ⟨q,cI rfl,ei⟩)
end
end
end Go.Opn
set_option maxRecDepth 100000
set_option maxHeartbeats 4000000
namespace Go.Opn
noncomputable section
open Go.Cre Go.RowKit Go.Proofs
def hr{α:Type}(sz:Nat)(R:Nat->α->List Value->Prop)(cells:List Value)(xs:List α):Prop:=cells.length=xs.length*sz/\∀i x,xs[i]?=some x->R i x ((cells.drop (i*sz)).take sz)
theorem hr.at{α:Type}{sz:Nat}{R:Nat->α->List Value->Prop}{cells full:List Value}{xs:List α}(h:hr sz R cells xs)(aC:full.take (xs.length*sz)=cells){i:Nat}(ao:i<xs.length):∃x cs,xs[i]?=some x/\takeN sz (oG (0+i*sz) full)=some cs/\(∀k v,k<sz->nth cs k=some v->nth full (0+i*sz+k)=some v)/\R i x cs:=by
 have aa:=h.2 i _ (de ao);have af:i*sz+sz<=xs.length*sz:=by rw[<-pe];exact nt _ ao
 have av:xs.length*sz<=full.length:=by
  have:=h.1;rw[<-aC,h1] at this;omega
 refine⟨_,_,de ao,?_,fun k v aU az=>?_,aa⟩
 ·rw[ls,wY,x6 (by rw[lO];omega),<-aC,Ft,yu,mf (by omega)]
 ·rw[kR,kI,aE aU,pY,<-aC,kI,aE (by omega)] at az
  rw[kR,ls];exact az
theorem hr.take{α:Type}{sz:Nat}{R:Nat->α->List Value->Prop}{cells:List Value}{xs:List α}(h:hr sz R cells xs){k:Nat}(aU:k<=xs.length):hr sz R (cells.take (k*sz)) (xs.take k):=by
 have ir:k*sz<=xs.length*sz:=nt _ aU;refine⟨by rw[h1,h1,h.1,mf ir,mf aU],fun i x U=>?_⟩;rw[kI] at U;by_cases q:i<k
 ·rw[aE q] at U
  have af:i*sz+sz<=k*sz:=by rw[<-pe];exact nt _ q
  rw[Ft,yu,mf (by omega)];exact h.2 i x U
 ·rw[ap q] at U;cases U
theorem hr.app{α:Type}{sz:Nat}{R:Nat->α->List Value->Prop}{cells new:List Value}{xs:List α}{x:α}(h:hr sz R cells xs)(U:R xs.length x new)(aP:new.length=sz):hr sz R (cells++new) (xs++[x]):=by
 refine⟨by rw[dv,dv,h.1,aP,s',nr,Nat.one_mul],fun i y ai=>?_⟩;by_cases q:i<xs.length
 ·rw[lq q] at ai
  have af:i*sz+sz<=xs.length*sz:=by rw[<-pe];exact nt _ q
  rw[List.drop_append_of_le_length (by rw[h.1];omega),Sr (by rw[lO,h.1];omega)];exact h.2 i y ai
 ·rw[qT (by omega)] at ai
  have bD:i=xs.length:=by
   have:=(dX.1 ai).1;rw[s'] at this;omega
  subst bD;rw[tb] at ai;injection ai with ai;subst ai
  rw[List.drop_left' (by rw[h.1]),et (by omega)];exact U
abbrev vQ(ad:Nat)(lv fp:Value)(aY hq:Int)(z s:Bool)(pl:Nat)(fm e8:Value):List Value:=[.pointer (some ⟨ad,0,none⟩),lv,fp,.int .i64 aY,.int .i64 hq,.bool z,.bool s,.int .i64 (pl:Int),fm,e8]
abbrev ni (a k:Nat):Value:=.slice (some ⟨a,0,none⟩) k c9
theorem L6{k:Int}{ns:List cS}:wb k ns=true↔∃(i:Nat) (x:cS),ns[i]?=some x/\x.k=2/\x.i=k:=by
 unfold wb;rw[Jl];constructor
 ·rintro⟨x,U,h⟩
  obtain⟨i,ao⟩:=kj.1 U;exact⟨i,x,ao,by simpa using h⟩
 ·rintro⟨i,x,ao,h⟩
  exact⟨x,cd ao,by simpa using h⟩
section
variable {Q:dI Tryz.prog}{g0:Nat}{J:aI}
theorem adV{am ad yJ bR ha:Nat}{lv:Value}{aY hq:Int}{z s:Bool}{pl:Nat}{mL:List cS}{is:List (Int×Int)}{fv fn y3:List Value}{rv rn iB:List Nat}{ep:Nat}{info b3:Int}
 (aP:hr 6 (fun _=>nu J) (fn.take (mL.length*6)) mL)(bD:0<=info)(ahV:ep=is.length)(Hd:0<is.length)(cr:mL.length<=100000)(oT:is.length<=100000):
 Fn (bb Q g0) 52 [.pointer (some ⟨am,0,none⟩),.int .i64 info,.int .i64 b3] [(am,.row (vQ ad lv (ni yJ ep) aY hq z s pl (ni bR mL.length) (ni ha is.length)) 85),(yJ,.opn fv 136 rv 0),(bR,.opn fn 45 rn 0),(ha,.opn y3 77 iB 0)] J
  (fun u m' ag=>J=ag/\∃k,m'=[(am,.row (vQ ad lv (ni yJ k) aY hq z s pl (ni bR mL.length) (ni ha k)) 85),(yJ,.opn fv 136 rv 0),(bR,.opn fn 45 rn 0),(ha,.opn y3 77 iB 0)]/\
     k=if b3<0\/info≠(is.length:Int) -1 then is.length else if wb info mL=true then is.length else info.toNat):=by
 subst ahV;have fJ:=fun i ao=>aP.at rfl (i:=i) ao;refine Fn.cH (cQ Tryz.func52) rfl rfl fun H=>?_;refine fT [2,0,1] ?_;refine aj ?_;refine' ab.ht 1 [(19,.bool (decide ((b3<0\/info≠(is.length:Int) -1))))] ?Nf ?adB;case Nf=>
  refine ab.region ?_;refine I V.ah ?_;refine I V.a1 ?_;refine I V.ah ?_;refine dq 9 (fun NW=>?_) fun NW=>?_
  ·refine al ?_;refine al ?_;refine al ?_;refine al ?_;refine al ?_;refine al ?_;refine al ?_;refine al ?_;refine al ?_;refine I V.aV ?_;refine a8 ?_;exact ce
  ·refine aW V.ah ?_;refine aW V.ah ?_;refine aW V.o2 ?_;refine aW V.bc ?_;refine aW V.bc ?_;refine aW V.aF ?_;refine aW V.bP ?_;refine aW V.bx ?_;refine aW V.a1 ?_;refine I V.aV ?_;refine a8 ?_;exact ce
 case adB=>
  refine aj ?_;refine If (fun hB=>?_) fun hB=>?_
  ·refine aj ?_;refine ab.ret ?_;refine'⟨.inr rfl,rfl,_,_,.nil,bA _,?_⟩;first
    |(refine⟨rfl,_,rfl,?_⟩;rw[aE hB])
    |(have c7:((is.length:Int) -1)=info:=by omega
      refine⟨rfl,info.toNat,by rw[c7],?_⟩;rw[ap hB,ap (fun q=>by
          obtain⟨j,y,ai,bd⟩:=L6.1 q;exact bB j (by have:=(dX.1 ai).1;omega) y ai bd)])
  ·refine aj ?_;refine ab.skip ?_;refine rg ?_;refine I V.aA ?_;refine ns ?_;refine ab.block ?_;refine' ab.c2 (l':=[(6,.int .i64 ((0):Int)),(0,_),(1,_)]) ⟨?nn,rfl,rfl,trivial⟩ (bA _) ?_;case nn=>exact bS
   refine aj ?_;refine' ab.rG (α:=(Nat)) (fun(i:Nat)=>[(6,.int .i64 (i:Int))]) (fun(i:Nat)=>i<=mL.length/\∀j,j<i->∀x,mL[j]?=some x->¬(x.k=2/\x.i=info)) (fun(i:Nat)=>mL.length -i) (0) ?af ?bE;case af=>exact⟨cB _,fun j ba=>by omega⟩
   case bE=>
    rintro i hinv;try simp only at hinv
    obtain⟨ao,bB⟩:=hinv;refine rg ?_;refine aM ?_;refine I V.aF ?_;refine I V.bP ?_;refine I V.a1 ?_;refine ns ?_;refine If (fun jx=>?_) fun jx=>?_
    ·obtain⟨x,cs,U,y9,Hi,bm,bt,bl,bw,b8,dh,rfl,U2,arC,arD⟩:=fJ i (by omega);have iH:=Hi 0 _ (by decide) rfl;have bn:=Hi 2 _ (by decide) rfl;refine c5 ?_;refine aj ?_;refine ab.block ?_;refine fT [0,1,6] ?_;refine aj ?_;refine' ab.ht 0 [(52,.bool (decide ((x.k=2/\x.i=info))))] ?tv ?tx;case tv=>
      refine ab.region ?_;refine aM ?_;refine I V.aF ?_;refine I V.ah ?_;refine I V.aX ?_;refine I V.bc ?_;refine I V.aF ?_;refine I V.a1 ?_;refine I V.ah ?_;refine dq 40 (fun afX=>?_) fun afX=>?_
      ·
        refine aW V.ah ?_;refine aW V.o2 ?_;refine aW V.bc ?_;refine aW V.bc ?_;refine aW V.aF ?_;refine aW V.ah ?_;refine aW V.aX ?_;refine aW V.bc ?_;refine aW V.aF ?_;refine aW V.ah ?_;refine aW V.a1 ?_;refine I V.aV ?_;refine a8 ?_;exact ce
      ·
        refine al ?_;refine al ?_;refine al ?_;refine al ?_;refine al ?_;refine al ?_;refine al ?_;refine al ?_;refine al ?_;refine al ?_;refine al ?_;refine I V.aV ?_;refine a8 ?_;exact ce
     case tx=>
      refine aj ?_;refine If (fun nZ=>?_) fun nZ=>?_
      ·
        refine aj ?_;refine ab.ret ?_;refine'⟨.inr rfl,rfl,_,_,.nil,bA _,?_⟩;first
         |(refine⟨rfl,_,rfl,?_⟩;rw[aE hB])
         |(have c:=nZ;refine⟨rfl,_,rfl,?_⟩;rw[ap hB,aE (L6.2 ⟨_,_,U,nZ⟩)])
         |(have c7:((is.length:Int) -1)=info:=by omega
           refine⟨rfl,info.toNat,by rw[c7],?_⟩;rw[ap hB,ap (fun q=>by
               obtain⟨j,y,ai,bd⟩:=L6.1 q;exact bB j (by have:=(dX.1 ai).1;omega) y ai bd)])
      ·
        refine aj ?_;refine ab.skip ?_;refine rg ?_;refine I V.ah ?_;refine I V.bx ?_;refine I V.aA ?_;refine a8 ?_;refine'⟨(i+1),_,?hinv,?kw,rfl,⟨?m6,rfl,rfl,trivial⟩,bA _,rfl⟩;case m6=>exact bS
        case kw=>exact cf
        case hinv=>refine⟨by omega,fun j ba y ai=>?_⟩;by_cases q:j<i;(exact bB j q y ai);(obtain rfl:j=i:=by omega);(rw[U] at ai;injection ai with ai;subst ai;exact nZ)
    ·refine aj ?_;refine ab.exit ?_;refine rg ?_;refine aM ?_;refine I V.aF ?_;refine I V.ah ?_;refine' W.step rfl (Exec.val rfl rfl (ZM rfl rfl rfl (Q5 Q g0) ?hm ?bD ?aa) ?_);case hm=>repeat first|exact .head _|refine .tail _ ?_|refine h2 _ ?_
     case bD=>exact cf
     case aa=>exact cf
     refine aM ?_;refine dN ?_;refine ns ?_;refine ab.draw rfl (by kernel_rfl) (bf:=[.val 0,.val 1,.val 2,.val 3,.val 4,.val 5,.val 6,.val 7,.val 8,.val 9,.val 10,.val 11,.val 12,.val 13,.bV 14]) (by kernel_rfl) ?_;refine cq ?_;refine an rfl V.aF ?_;refine cq ?_;refine an rfl V.aF ?_;refine an rfl V.bP ?_;refine an rfl V.bx ?_;refine' a7.val rfl rfl rfl rfl (ZM rfl rfl rfl (Q7 Q g0) ?hm ?bD ?aa) ?_;case hm=>repeat first|exact .head _|refine .tail _ ?_|refine h2 _ ?_
     case bD=>exact cf
     case aa=>exact cf
     refine cq ?_;refine kW rfl ?_;refine a7.nil ?_;refine'⟨.inl rfl,rfl,_,_,.nil,bA _,?_⟩;first
        |(refine⟨rfl,_,rfl,?_⟩;rw[aE hB])
        |(have c7:((is.length:Int) -1)=info:=by omega
          refine⟨rfl,info.toNat,by rw[c7],?_⟩;rw[ap hB,ap (fun q=>by
            obtain⟨j,y,ai,bd⟩:=L6.1 q;exact bB j (by have:=(dX.1 ai).1;omega) y ai bd)])
end
def CW(J:aI)(i:Nat)(x:ju)(cs:List Value):Prop:=∃b c,cs=[.int .i64 x.b3,.int .i64 (x.level:Int),.slice b x.seen.length c,.int .i64 (i:Int)]/\dG J (.slice b x.seen.length c) x.seen
def Mn(_:Nat)(x:Int×Int)(cs:List Value):Prop:=cs=[.int .i64 x.1,.int .i64 x.2]
open Classical in
theorem Uv{v:ju}:∀{l:List ju} {i:Nat},(∀(j:Nat) (x:ju),l[j]?=some x->x≠v)->kq v l i=none:=by
 intro l;induction l with
 |nil=>intro i _;rfl
 |cons w r aK=>
  intro i h;show(if w=v then some i else kq v r (i+1))=none;rw[ap (h 0 w rfl)];exact aK fun j x U=>h (j+1) x U
theorem Z3{x:ju}{p:Int}{L:Nat}{s:List Int}:x=⟨p,L,s⟩↔x.b3=p/\x.level=L/\x.seen=s:=by
 constructor
 ·rintro rfl;exact⟨rfl,rfl,rfl⟩
 ·cases x;rintro⟨rfl,rfl,rfl⟩;rfl
open Classical in
theorem aeM{v:ju}:∀{l:List ju} {i k:Nat},(∀(j:Nat),j<k->∀x,l[j]?=some x->x≠v)->l[k]?=some v->kq v l i=some (i+k):=by
 intro l;induction l with
 |nil=>intro i k _ h;cases h
 |cons w r aK=>
  intro i k h aU;show(if w=v then some i else kq v r (i+1))=_;cases k with
  |zero=>injection aU with aU;rw[aE aU];rfl
  |succ k=>
   rw[ap (h 0 (by omega) w rfl),aK (fun j ba x U=>h (j+1) (by omega) x U) aU];congr 1;omega
theorem hk.iJ{e:TypeId}{sz k:Nat}{v:Value}{cells:List Value}{aY:aO}(h:hk e sz v k cells aY):∃b c,v=.slice b k c/\addrEq b b=true:=by
 rcases h with⟨h,_⟩|⟨a,full,rest,rfl,_⟩
 ·exact h.iJ
 ·exact⟨_,_,rfl,by show(Nat.beq a a&&Nat.beq 0 0)=true;rw[hA];rfl⟩
theorem alU{α:Type}{x a b:α}{l r:List α}:([x]++(l++a::b::r)).Perm (l++a::b::x::r):=
 (wq (l₁:=l) (l₂:=a::b::r)).symm.trans (Aq _ ((List.Perm.swap a x _).trans (.cons _ (List.Perm.swap b x _))))
theorem alV{α:Type}{p d a b:α}{l r:List α}:(p::([d]++(l++a::b::r))).Perm (r++(p::d::(l++[a,b]))):=by
 have h:=hR (l₁:=p::d::(l++[a,b])) (l₂:=r);rw[show p::([d]++(l++a::b::r))=(p::d::(l++[a,b]))++r by simp];exact h
theorem X7{α:Type}{d a:α}{l r:List α}:(r++(d::(l++[a]))).Perm (a::d::(l++r)):=by
 refine(hR (l₁:=r) (l₂:=d::(l++[a]))).trans ?_;rw[show d::(l++[a])++r=d::(l++a::r) by simp];exact(List.Perm.cons _ wq).trans (List.Perm.swap _ _ _)
section
variable {Q:dI Tryz.prog}{g0:Nat}{J:aI}
theorem aeO{am ad:Nat}{lv fp fm e8:Value}{ah bh:aO}{aY hq:Int}{z s:Bool}{pl:Nat}{c1:Option Addr}{cl a:Nat}{l:List Int}{vs:List ju}{is:List (Int×Int)}{gJ ci:List Value}{b3:Int}{L:Nat}{b:Option Addr}{c:Nat}{seen:List Int}
 (av:dG J (.slice c1 l.length cl) l)(hE:l.length<=1000000)(a':a<=l.length)
 (az:hk 136 4 fp vs.length gJ ah)(tV:hr 4 (CW J) gJ vs)(ao:hk 77 2 e8 is.length ci bh)(vB:hr 2 Mn ci is)(lF:is.length=vs.length)(xG:vs.length<=100000)
 (af:dG J (.slice b seen.length c) seen)(k':∀x∈vs,x.seen.length<=1000000):
 Fn (bb Q g0) 51 [.pointer (some ⟨am,0,none⟩),.int .i64 b3,.int .i64 (L:Int),.slice b seen.length c] ((am,.row (vQ ad lv fp aY hq z s pl fm e8) 85)::j3 ad c1 cl l a::(ah++bh)) J
  (fun u m' ag=>J=ag/\∃o7 o0 vR ur Nj M8 bY kD H2,∃k:Nat,u=.int .i64 (k:Int)/\m'.Perm ((am,.row (vQ ad lv o7 aY hq z s pl fm o0) 85)::j3 ad c1 cl l bY::(vR++ur))/\bY<=l.length/\
     hk 136 4 o7 kD.length Nj vR/\hr 4 (CW J) Nj kD/\hk 77 2 o0 H2.length M8 ur/\hr 2 Mn M8 H2/\
     ((kq ⟨b3,L,seen⟩ vs 0=some k/\kD=vs/\H2=is/\bY=a)\/(kq ⟨b3,L,seen⟩ vs 0=none/\k=vs.length/\kD=vs++[⟨b3,L,seen⟩]/\H2=is++[(b3,1+eh (l.drop a) 3)]/\bY=kK l a 3))):=by
 obtain⟨bv,aq9,rfl,Cc⟩:=az.iJ;obtain⟨aL,acp,rfl,fW⟩:=ao.iJ;have KQ:addrEq b b=true:=by obtain⟨e,h⟩:=af;exact h.addr
 refine Fn.cH (cQ Tryz.func51) rfl rfl fun H=>?_;refine rg ?_;refine I V.aA ?_;refine bj ?_;refine I V.aA ?_;refine ns ?_;refine ab.block ?_;refine' ab.c2 (l':=[(9,.int .i64 ((0):Int)),(0,_),(1,_),(2,_),(3,_)]) ⟨?pS,rfl,rfl,rfl,rfl,trivial⟩ (bA _) ?_;case pS=>exact bS
 refine aj ?_;refine' ab.rG (α:=(Nat)) (fun(i:Nat)=>[(9,.int .i64 (i:Int))]) (fun(i:Nat)=>i<=vs.length/\∀j,j<i->∀x,vs[j]?=some x->x≠⟨b3,L,seen⟩) (fun(i:Nat)=>vs.length -i) (0) ?af ?bE;case af=>exact⟨cB _,fun j ba=>by omega⟩
 case bE=>
  rintro i hinv;try simp only at hinv
  obtain⟨lC,bB⟩:=hinv;refine rg ?_;refine aM ?_;refine I V.aF ?_;refine I V.bP ?_;refine I V.a1 ?_;refine ns ?_;refine If (fun yO=>?_) fun yO=>?_
  ·obtain⟨yJ,fv,rv,bd,rfl,OR,sD⟩:=az.row (by omega);obtain⟨x,cs,U,y9,Hi,dJ,hb,rfl,HO⟩:=tV.at OR (i:=i) (by omega);injection bd with bd a6 b9;subst bd;subst b9
   have kP:=k' x (cd U);have hP:addrEq dJ dJ=true:=by obtain⟨e,h⟩:=HO;exact h.addr
   refine c5 ?_;refine aj ?_;refine ab.block ?_;refine rg ?_;refine aM ?_;refine I V.aF ?_;refine I V.ah ?_;refine I V.aX ?_;refine I V.c8 ?_;refine' W.step rfl (.of (e4 rfl rfl rfl (apH Q g0) rfl rfl rfl fun q2=>?_));refine dN ?_;refine a8 ?_;refine fT [0,1,2,3,9,10] ?_;refine aj ?_;refine' ab.ht 0 [(42,.bool (decide ((x.b3=b3/\x.level=L/\x.seen=seen))))] ?ac0 ?adO;case ac0=>
    refine ab.region ?_;refine I V.bc ?_;refine I V.aF ?_;refine I V.ah ?_;refine I V.a1 ?_;refine I V.ah ?_;refine dq 31 (fun Kd=>?_) fun Kd=>?_
    ·refine aW V.bc ?_;refine aW V.aF ?_;refine aW V.ah ?_;refine aW V.a1 ?_;refine I V.aV ?_;refine I V.ah ?_;refine dq 37 (fun af4=>?_) fun af4=>?_
     ·refine aW V.bc ?_;refine aW V.aF ?_;refine aW V.ah ?_;refine Db (G:=WV HO af kP) (h:=?_);rintro v m' ag hle ⟨rfl,rfl,rfl⟩;refine I V.aV ?_;refine a8 ?_;exact ce
     ·refine al ?_;refine al ?_;refine al ?_;refine W.oL rfl rfl rfl rfl rfl ?_;refine I V.aV ?_;refine a8 ?_;exact ce
    ·refine al ?_;refine al ?_;refine al ?_;refine al ?_;refine I V.aV ?_;refine I V.ah ?_;refine al ?_;refine al ?_;refine al ?_;refine W.oL rfl rfl rfl rfl rfl ?_;refine I V.aV ?_;refine a8 ?_;exact ce
   case adO=>
    refine aj ?_;refine If (fun vd=>?_) fun vd=>?_
    ·refine rg ?_;refine I V.bc ?_;refine I V.aF ?_;refine I V.aA ?_;refine ns ?_;refine ab.ret ?_;refine'⟨.inr rfl,rfl,_,_,.tmp rfl .nil,?kx,?_⟩;case kx=>first|(have c:=vd;apply List.Sublist.cons;exact bA _)|exact(List.Sublist.cons _ (List.Sublist.cons_cons _ ((List.Sublist.cons _ (bA _)).append_left _))).append_left _
     first
        |(have c:=vd
          obtain rfl:=Z3.2 vd;have aC:=aeM (i:=0) bB U;rw[ls] at aC;exact⟨rfl,_,_,_,_,_,_,_,_,_,i,rfl,.refl _,a',az,tV,ao,vB,.inl ⟨aC,rfl,rfl,rfl⟩⟩)
        |(refine⟨rfl,_,_,_,_,_,_,_,_,_,vs.length,?_,X7,tk a',?_,tV.app (x:=⟨b3,L,seen⟩) (new:=[.int .i64 b3,.int .i64 (L:Int),.slice b seen.length c,.int .i64 (vs.length:Int)]) ⟨b,c,rfl,af⟩ rfl,?_,vB.app (x:=(b3,1+eh (l.drop a) 3)) (new:=[.int .i64 b3,.int .i64 (1+eh (l.drop a) 3)]) rfl rfl,.inr ⟨Uv fun j y ai=>bB j (by have:=(dX.1 ai).1;omega) y ai,rfl,rfl,rfl,rfl⟩⟩
          ·show Value.int .i64 _=_;congr 1;omega
          ·rw[dv,<-lF];rw[<-lF] at G6;exact G6
          ·rw[dv];rw[hw] at Bd;exact Bd)
    ·refine aj ?_;refine ab.skip ?_;refine rg ?_;refine I V.ah ?_;refine I V.bx ?_;refine I V.aA ?_;refine a8 ?_;refine'⟨(i+1),_,?hinv,?kw,rfl,⟨?m9,rfl,rfl,rfl,rfl,trivial⟩,.cons _ (.refl _),rfl⟩;case m9=>exact bS
     case kw=>exact cf
     case hinv=>refine⟨by omega,fun j ba y ai=>?_⟩;by_cases q:j<i;(exact bB j q y ai);(obtain rfl:j=i:=by omega);(rw[U] at ai;injection ai with ai;subst ai;exact fun q=>vd (Z3.1 q))
  ·refine aj ?_;refine ab.exit ?_;refine aj ?_;refine ab.draw rfl (by kernel_rfl) (bf:=[.val 0,.val 1,.val 2,.val 3,.val 4,.val 5,.val 6,.val 7,.val 8,.val 9,.val 10,.val 11,.val 12,.val 13,.val 14,.gh 15,.cF [14,13,12,11,10,9,8,7,6,5,4,3,2,1,0],.bV 16,.val 17,.val 18,.cF [0],.bV 19]) (by kernel_rfl) ?_;refine cq ?_;refine an rfl V.aF ?_;refine cq ?_;refine an rfl V.aF ?_;refine an rfl V.bP ?_;refine an rfl V.jL ?_;refine a7.buildSlice rfl rfl rfl rfl rfl rfl (Q7 Q g0) rfl rfl rfl fun ap7=>?_;refine a7.cF fC ?_;refine' a7.fO rfl rfl (RF rfl rfl rfl rfl rfl rfl (Q7 Q g0) (aoq Q g0) (fun i q=>by cases q) ?cw ?hm ?U ?cr ?cc ?ba ?av fun auv akG G6=>?_);case cw=>assumption
   case hm=>exact sU
   case U=>exact hP
   case cr=>first|rfl|(simp;done)|(simp;omega)
   case cc=>first|rfl|exact hg _
   case ba=>exact cf
   case av=>exact cf
   obtain⟨aqk,mi,rfl,atH⟩:=G6.iJ;refine cq ?_;refine a7.cF fC ?_;refine kW rfl ?_;refine a7.nil ?_;refine aj ?_;refine ab.draw rfl (by kernel_rfl) (bf:=[.val 0,.val 1,.val 2,.val 3,.val 4,.val 5,.val 6,.val 7,.val 8,.val 9,.val 10,.bV 11,.val 12,.val 13,.gh 14,.cF [13,12,6,5,4,3,2,1,0],.bV 15,.val 16,.val 17,.val 18,.cF [0],.bV 19]) (by kernel_rfl) ?_;refine cq ?_;refine an rfl V.aF ?_;refine cq ?_;refine an rfl V.aF ?_;have hw:IntKind.i64.wrap (1+eh (l.drop a) 3)=1+eh (l.drop a) 3:=wrap_i64 (by have:=pB (l:=l.drop a) (n:=3) (by omega);omega) (by have:=pB (l:=l.drop a) (n:=3) (by omega);omega);refine' a7.call rfl rfl rfl rfl rfl rfl rfl rfl rfl rfl (bh:=[j3 ad c1 cl l a]) (bW:=akG++_::_::bh) alU trivial (BW av hE a' (by decide)) ?_;rintro v m' ag hle ⟨rfl,rfl,rfl⟩;refine an rfl V.bx ?_;refine an rfl V.jL ?_;refine a7.buildSlice rfl rfl rfl rfl rfl rfl (Q5 Q g0) rfl rfl rfl fun aaW=>?_;refine a7.cF fC ?_;refine' a7.fO rfl rfl (RF rfl rfl rfl rfl rfl rfl (Q5 Q g0) (aon Q g0) (fun i q=>by cases q) ?cw ?hm ?U ?cr ?cc ?ba ?av fun Z8 Xm Bd=>?_);case cw=>assumption
   case hm=>exact alV
   case U=>exact hP
   case cr=>first|rfl|(simp;done)|(simp;omega)
   case cc=>first|rfl|exact hg _
   case ba=>exact cf
   case av=>exact cf
   obtain⟨aql,sd,rfl,atI⟩:=Bd.iJ;refine cq ?_;refine a7.cF fC ?_;refine kW rfl ?_;refine a7.nil ?_;refine rg ?_;refine aM ?_;refine I V.aF ?_;refine I V.bP ?_;refine I V.bx ?_;refine I V.aA ?_;refine ns ?_;refine ab.ret ?_;refine'⟨.inr rfl,rfl,_,_,.tmp rfl .nil,?kx,?_⟩;case kx=>first|(have c:=vd;apply List.Sublist.cons;exact bA _)|exact(List.Sublist.cons _ (List.Sublist.cons_cons _ ((List.Sublist.cons _ (bA _)).append_left _))).append_left _
   first
    |(refine⟨rfl,_,_,_,_,_,_,_,_,_,vs.length,?_,X7,tk a',?_,tV.app (x:=⟨b3,L,seen⟩) (new:=[.int .i64 b3,.int .i64 (L:Int),.slice b seen.length c,.int .i64 (vs.length:Int)]) ⟨b,c,rfl,af⟩ rfl,?_,vB.app (x:=(b3,1+eh (l.drop a) 3)) (new:=[.int .i64 b3,.int .i64 (1+eh (l.drop a) 3)]) rfl rfl,.inr ⟨Uv fun j y ai=>bB j (by have:=(dX.1 ai).1;omega) y ai,rfl,rfl,rfl,rfl⟩⟩
      ·show Value.int .i64 _=_;congr 1;omega
      ·rw[dv,<-lF];rw[<-lF] at G6;exact G6
      ·rw[dv];rw[hw] at Bd;exact Bd)
end
theorem X4{α:Type}{d p:α}{l r:List α}:([d]++(l++p::r)).Perm (l++p::d::r):=(wq (l₁:=l) (l₂:=p::r)).symm.trans (Aq _ (List.Perm.swap _ _ _))
theorem alS{α:Type}{q d p:α}{l r:List α}:(q::([d]++(l++p::r))).Perm (l++q::p::d::r):=(List.Perm.cons q X4).trans List.perm_middle.symm
theorem alT{α:Type}{a b c d:α}:[a,b,c,d].Perm (d::[a,b,c]):=hR (l₁:=[a,b,c]) (l₂:=[d])
theorem Yn{full new:List Value}{p m:Nat}(h:p+new.length<=full.length):(full.take p++new++full.drop (p+new.length))[m]?=if m<p then full[m]? else if m<p+new.length then new[m -p]? else full[m]?:=by
 have aa:(full.take p).length=p:=by rw[h1];omega
 by_cases q:m<p
 ·rw[aE q,gH,lq (by omega),kI,aE q]
 ·rw[ap q]
  by_cases a6:m<p+new.length
  ·rw[aE a6,lq (by rw[dv];omega),qT (by omega),aa]
  ·rw[ap a6,qT (by rw[dv];omega),pY,dv,aa]
   congr 1;omega
theorem hr.put{α:Type}{sz:Nat}{R R':Nat->α->List Value->Prop}{full new:List Value}{xs:List α}(h:hr sz R (full.take (xs.length*sz)) xs)(aC:xs.length*sz<=full.length)(ey:∀i x cs,R i x cs->R' i x cs){k:Nat}{y:α}(aU:k<xs.length)(aP:new.length=sz)(ai:R' k y new):hr sz R' ((full.take (k*sz)++new++full.drop (k*sz+new.length)).take (xs.length*sz)) (xs.set k y):=by
 have ir:k*sz+sz<=xs.length*sz:=by rw[<-pe];exact nt _ aU
 refine⟨by rw[h1,dv,dv,h1,lO,gu];omega,fun i x U=>?_⟩;have ao:i<xs.length:=by have:=(dX.1 U).1;rw[gu] at this;exact this
 have rq:i*sz+sz<=xs.length*sz:=by rw[<-pe];exact nt _ ao
 by_cases q:i=k
 ·subst q
  rw[List.getElem?_set_self aU] at U;injection U with U;subst U
  rw[show((full.take (i*sz)++new++full.drop (i*sz+new.length)).take (xs.length*sz) |>.drop (i*sz)).take sz=new from ?_]
  ·exact ai
  ·apply lp
   intro j;rw[kI];by_cases Cb:j<sz
   ·rw[aE Cb,pY,kI,aE (by omega),Yn (by omega),ap (by omega),aE (by omega)]
    congr 1;omega
   ·rw[ap Cb,fx (by omega)]
 ·rw[List.getElem?_set_ne (fun r=>q r.symm)] at U
  have ae:=ey _ _ _ (h.2 i x U);have aZ:i*sz+sz<=k*sz\/k*sz+sz<=i*sz:=by
   rcases kY i k with r|r
   ·exact .inl (by rw[<-pe];exact nt _ r)
   ·exact .inr (by rw[<-pe];exact nt _ (by omega))
  rw[show((full.take (k*sz)++new++full.drop (k*sz+new.length)).take (xs.length*sz) |>.drop (i*sz)).take sz=((full.take (xs.length*sz)).drop (i*sz)).take sz from ?_]
  ·exact ae
  ·apply lp
   intro j;rw[kI,kI];by_cases Cb:j<sz
   ·rw[aE Cb,aE Cb,pY,pY,kI,kI,aE (by omega),aE (by omega),Yn (by omega)]
    rcases aZ with r|r
    ·rw[aE (by omega)]
    ·rw[ap (by omega),ap (by omega)]
   ·rw[ap Cb,ap Cb]
section
variable {Q:dI Tryz.prog}{g0:Nat}{J:aI}
theorem akw{am ad bR:Nat}{lv fp e8:Value}{aY hq:Int}{s:Bool}{pl:Nat}{c1:Option Addr}{cl a at_:Nat}{l:List Int}{mL:List cS}{fn:List Value}{rn:List Nat}
 (av:dG J (.slice c1 l.length cl) l)(hE:l.length<=1000000)(a':a<=l.length)(dO:pl<=100)
 (aP:hr 6 (fun _=>nu J) (fn.take (mL.length*6)) mL)(aC:mL.length*6<=fn.length)(fJ:at_<mL.length)(cr:mL.length<=100000):
 Fn (bb Q g0) 50 [.pointer (some ⟨am,0,none⟩),.int .i64 (at_:Int)] [j3 ad c1 cl l a,(am,.row (vQ ad lv fp aY hq false s pl (ni bR mL.length) e8) 85),(bR,.opn fn 45 rn 0)] J
  (fun u m' ag=>J.le ag/\∃bY AV LO,m'=[(bR,.opn AV 45 LO 0),j3 ad c1 cl l bY,(am,.row (vQ ad lv fp aY hq false s pl (ni bR mL.length) e8) 85)]/\bY<=l.length/\l.drop bY=(og pl (l.drop a)).2/\AV.length=fn.length/\
     hr 6 (fun _=>nu ag) (AV.take (mL.length*6)) (mL.set at_ ⟨3,0,0,[],[],(og pl (l.drop a)).1⟩)):=by
 refine Fn.cH (cQ Tryz.func50) rfl rfl fun H=>?_;refine rg ?_;refine I V.jL ?_;refine' W.step rfl (.of (e4 rfl rfl rfl (om Q g0) rfl rfl rfl fun a4=>?_));refine dN ?_;refine bj ?_;refine I V.aA ?_;refine ns ?_;refine ab.block ?_;refine' ab.c2 (l':=[(5,.int .i64 ((0):Int)),(0,_),(1,_),(4,_)]) ⟨?pR,rfl,rfl,rfl,trivial⟩ (bA _) ?_;case pR=>exact bS
 refine aj ?_;refine' ab.dF (fun(bH:Nat×Nat×(List Int)×Value×aO)=>match bH with|(i,bo,oF,v,l6)=>⟨[(5,.int .i64 (i:Int))],l6++[(a4,.row [.int .i64 3,.int .i64 0,.int .i64 0,.slice none 0 0,.slice none 0 0,v] 45),j3 ad c1 cl l bo,(am,.row (vQ ad lv fp aY hq false s pl (ni bR mL.length) e8) 85),(bR,.opn fn 45 rn 0)],J,i<=pl/\bo<=l.length/\oF.length=i/\Acc 3 1 v oF.length (oF.map (Value.int .i64)) l6/\og pl (l.drop a)=(oF++(og (pl -i) (l.drop bo)).1,(og (pl -i) (l.drop bo)).2),pl -i⟩) ⟨0,a,[],.slice none 0 0,[]⟩ ?af ?bE
 case af=>exact⟨cB _,a',rfl,.nil,rfl⟩
 case bE=>
  rintro⟨i,bo,oF,v,l6⟩ hinv;try simp only at hinv
  obtain⟨ao,G4,OJ,cw,xC⟩:=hinv;obtain⟨r',sf,rfl,at1⟩:=cw.iJ;refine rg ?_;refine aM ?_;refine I V.aF ?_;refine I V.a1 ?_;refine ns ?_;refine If (fun p2=>?_) fun p2=>?_
  ·refine aj ?_;refine ab.skip ?_;refine aj ?_;refine ab.block ?_;refine aj ?_;refine ab.draw rfl (by kernel_rfl) (bf:=[.val 0,.val 1,.val 2,.val 3,.val 4,.val 5,.bV 6,.val 7,.gh 8,.cF [7,1,0],.bV 9,.val 10,.bV 11]) (by kernel_rfl) ?_;refine an rfl V.bc ?_;refine an rfl V.aF ?_;refine cq ?_;refine an rfl V.aF ?_;refine' a7.call rfl rfl rfl rfl rfl rfl rfl rfl rfl rfl (bh:=[j3 ad c1 cl l bo]) (bW:=l6++_::[_,_]) X4 trivial (BW av hE G4 (by decide)) ?_;rintro v m' ag hle ⟨rfl,rfl,rfl⟩;refine an rfl V.bx ?_;refine a7.buildSlice rfl rfl rfl rfl rfl rfl (eX Q g0) rfl rfl rfl fun a24=>?_;refine a7.cF ⟨?hv,?bp,?bC,trivial⟩ ?_;case hv=>
    refine' nQ.val rfl rfl rfl (Rx rfl rfl rfl rfl ?hw) rfl ?he;case hw=>first|exact wrap_i64 (by omega) (by omega)|exact wrap_u8 (by omega) (by omega)|rfl
    case he=>exact IX
   case bp=>
    refine' nQ.val rfl rfl rfl (gY rfl rfl ?ay (hp (eV rfl) ?az)) rfl ?he;case ay=>exact qr
    case az=>first|rfl|assumption
    case he=>exact IX
   case bC=>
    refine' nQ.val rfl rfl rfl (ZG rfl rfl (Zj rfl rfl)) rfl ?he;case he=>exact IX
   refine' a7.fO rfl rfl (kf rfl rfl rfl rfl rfl rfl (eX Q g0) (pO Q g0) (fun i q=>by cases q) ?cw ?hm ?U ?cr ?cc ?av fun I1 Xj DP=>?_);case cw=>assumption
   case hm=>exact alS
   case U=>exact hP
   case cr=>first|rfl|(simp;done)|(simp;omega)
   case cc=>first|rfl|exact hg _
   case av=>exact cf
   have Hp:=pB (l:=l.drop bo) (n:=7) (by omega);have hw:IntKind.i64.wrap (eh (l.drop bo) 7 -3)=eh (l.drop bo) 7 -3:=wrap_i64 (by omega) (by omega);obtain⟨C0,oA,rfl,atF⟩:=DP.iJ;refine an rfl V.bc ?_;refine kW rfl ?_;refine a7.nil ?_;refine rg ?_;refine I V.ah ?_;refine I V.bx ?_;refine I V.aA ?_;refine a8 ?_;refine cA ⟨i+1,kK l bo 7,oF++[eh (l.drop bo) 7 -3],.slice C0 (oF.length+1) oA,Xj⟩ ?_ (hm:=(List.Sublist.cons _ (bA _)).append_left _);refine⟨by omega,tk G4,by rw[dv,OJ];rfl,?_,?_⟩;(rw[dv,Ms];rw[hw] at DP;exact DP);(rw[xC,show pl -i=(pl -(i+1))+1 by omega,yH,gH];rfl)
  ·refine aj ?_;refine ab.exit ?_;refine rg ?_;refine aM ?_;refine I V.aF ?_;refine I V.ah ?_;refine dq 31 (fun Kd=>?_) fun Kd=>?_
   ·exfalso;cases Kd
   ·refine al ?_;refine al ?_;refine al ?_;refine al ?_;refine al ?_;refine al ?_;refine I V.aV ?_;refine ns ?_;refine ab.wS rfl ?_;refine c5 ?_;refine cw.hx (Sc _) (fun eZ cE k'=>?_);refine aj ?_;refine ab.draw rfl (by kernel_rfl) (bf:=[.val 0,.val 1,.val 2,.val 3,.val 4,.val 5,.val 6,.val 7,.bV 8]) (by kernel_rfl) ?_;refine cq ?_;refine an rfl V.aF ?_;refine an rfl V.ah ?_;refine an rfl V.c8 ?_;refine an rfl V.aX ?_;refine' a7.fO rfl rfl (Aj rfl rfl rfl rfl (fY rfl) rfl rfl rfl ?aa ?af ?bN ?aw ?_);case aw=>exact alT
    case af=>exact Cm _ _ _ (by show 0+(at_:Int).toNat*6+6<=fn.length;omega)
    case aa=>first|rfl|assumption
    case bN=>exact cB _
    refine a7.nil ?_;refine'⟨.inl rfl,rfl,_,_,.nil,List.Sublist.cons_cons _ (List.Sublist.cons _ (bA _)),?_⟩;rw[show pl -i=0 by omega] at xC;have aw:og pl (l.drop a)=(oF,l.drop bo):=by rw[xC];exact cC (·,l.drop bo) (gg oF)
    rw[aw];have bN:0+(at_:Int).toNat*6=at_*6:=by omega
    refine⟨cE,bo,_,_,rfl,G4,rfl,?_,?_⟩
    ·rw[bN]
     show(_++[_,_,_,_,_,_]++_:List Value).length=_;rw[dv,dv,h1,lO];show Nat.min (at_*6) fn.length+6+(fn.length -(at_*6+6))=fn.length;have:Nat.min (at_*6) fn.length=at_*6:=mf (by omega);omega
    ·rw[bN]
     exact hr.put (R':=fun _=>nu eZ) aP aC (fun _ _ _ q=>q.mono cE) fJ (new:=[.int .i64 3,.int .i64 0,.int .i64 0,.slice none 0 0,.slice none 0 0,.slice r' oF.length sf]) rfl ⟨_,_,_,_,_,_,rfl,⟨3,.nil⟩,⟨3,.nil⟩,⟨3,k'⟩⟩
end
end
end Go.Opn
namespace Go.Opn
noncomputable section
open Go.Cre Go.RowKit
section
variable {K:eL}{B:ea}{o:Oper}{n:Nat}{ds:e7}{l:List (Nat×Value)}{m:aO}{J:aI}
def FU (k:IntKind)(a b:Int):BinOp->Option Value
 |.shr=>some (.int k (a.fdiv (2 ^ b.toNat)))
 |.and=>some (.int k (k.wrap (BitVec.ofInt k.bits a &&& BitVec.ofInt k.bits b).toNat))
 |_=>none
theorem ZD{op:BinOp}{t eD:TypeId}{x y:Operand}{k:IntKind}{a b:Int}{v:Value}(ar:o.op=.binOp op t x y eD)(U:b7 l x=some (.int k a))(ai:b7 l y=some (.int k b))(az:FU k a b op=some v)(au:0<=b)(mX:b<=k.bits):cV K B o n ds l m J v:=by
 intro call aR S H ax aJ;unfold cO fq;simp only[ar];show nM K.P _ op t (bk S.T H x) (bk S.T H y)=_;rw[du ax H U,du ax H ai];show(bif uk k k then nd H k a b _ op else _)=_;rw[K9,cb];have key:∀(xX:BinOp),op=xX->(xX=.shr\/xX=.and)->fI K.P S.T H o=some (.val v H):=by
  intro xX e h;subst e;refine uz ax (by rw[ar];rfl) U ai rfl rfl ?_ ?_
  ·unfold execOp;simp only[ar];rw[jy ax H U,jy ax H ai];rcases h with rfl|rfl
   ·simp only[FU,cp] at az;subst az;have aq:eP K.P (eqGuard .shr t x y (.int k a) (.int k b))=some ():=rfl;have rh:binOp .shr t (.int k a) (.int k b)=pure (.int k (a.fdiv (2 ^ b.toNat))):=by
     simp[binOp,Op.shift,show ¬b<0 by omega,mf (show b.toNat<=k.bits by omega)]
    rw[dL (a:=.int k (a.fdiv (2 ^ b.toNat)))]
    ·rfl
    rw[dL aq,rh];rfl
   ·simp only[FU,cp] at az;subst az;have aq:eP K.P (eqGuard .and t x y (.int k a) (.int k b))=some ():=rfl;have rh:binOp .and t (.int k a) (.int k b)=pure (.int k (k.wrap (BitVec.ofInt k.bits a &&& BitVec.ofInt k.bits b).toNat)):=by simp[binOp,Op.intBits]
    rw[dL (a:=.int k (k.wrap (BitVec.ofInt k.bits a &&& BitVec.ofInt k.bits b).toNat))]
    ·rfl
    rw[dL aq,rh];rfl
  ·rcases h with rfl|rfl<;>simp only[FU,cp] at az<;>subst az<;>rfl
 cases op<;>simp only[FU,reduceCtorEq] at az
 ·show _=_;exact(show nd H k a b _ .and=_ from key .and rfl (.inr rfl))
 ·exact(show nd H k a b _ .shr=_ from key .shr rfl (.inl rfl))
end
theorem aa'{a:Int}(h:0<=a)(ae:a<9223372036854775808):IntKind.i64.wrap (BitVec.ofInt IntKind.i64.bits a &&& BitVec.ofInt IntKind.i64.bits 1).toNat=a % 2:=by
 have e:(BitVec.ofInt 64 a &&& BitVec.ofInt 64 1).toNat=a.toNat % 2:=by
  rw[BitVec.toNat_and];have aa:(BitVec.ofInt 64 a).toNat=a.toNat:=by
   rw[BitVec.toNat_ofInt];congr 1
   omega
  rw[aa];show a.toNat &&& 1=_;exact Nat.and_one_is_mod _
 show IntKind.i64.wrap ((BitVec.ofInt 64 a &&& BitVec.ofInt 64 1).toNat:Int)=_;rw[e,wrap_i64 (by omega) (by omega)];omega
theorem anD{a:Nat}{q:Nat}:(a:Int).fdiv (2 ^ q)=((a / 2 ^ q:Nat):Int):=by
 rw[Int.fdiv_eq_ediv_of_nonneg _ (by exact R5 (Int.pow_pos (by omega)))];simp
section
variable {K:eL}{B:ea}{n:Nat}{ds:e7}{l:List (Nat×Value)}{m m':aO}{J:aI}{c0:Exit->cn->aO->aI->Prop}{f:FuncId}{args:List Value}
theorem rD{α:Type}{m:List α}:∃j,(m++j).Perm m:=⟨[],by rw[gg]⟩
theorem WW{α:Type}{m m':List α}(h:m.Sublist m'):∃j,(m++j).Perm m':=by
 induction h with
 |slnil=>exact⟨[],.refl _⟩
 |cons a _ aK=>obtain⟨j,h⟩:=aK;exact⟨a::j,List.perm_middle.trans (h.cons a)⟩
 |cons_cons a _ aK=>obtain⟨j,h⟩:=aK;exact⟨j,h.cons a⟩
theorem ab.yT{α:Type}{c:Code}(k:Nat)(sN:α->List (Nat×Value))(mem:α->aO)(fz:α->aI)(inv:α->Prop)(aa:ab K B c ⟨n,ds,l⟩ m J fun e cL m' ag=>match e with
 |.normal=>∃s l',inv s/\cL=⟨n,ds,l'⟩/\pN l' (sN s++l.drop k)/\(∃j,(mem s++j).Perm m')/\ag=fz s
 |e=>c0 e cL m' ag)(ae:∀s,inv s->c0 .normal ⟨n,ds,sN s++l.drop k⟩ (mem s) (fz s)):ab K B c ⟨n,ds,l⟩ m J c0:=by
 intro S H ax aJ;obtain⟨e,aS,H',cL,m1,ag,bp,bC,b5,da⟩:=aa S H ax aJ;cases e with
 |normal=>
  obtain⟨s,l',hv,rfl,gM,⟨j,ob⟩,rfl⟩:=da;exact⟨_,aS,H',_,_,_,bp,bC.sub gM,(b5.perm ob.symm).sub (pZ _ _),ae s hv⟩
 |exit i=>exact⟨_,aS,H',_,_,_,bp,bC,b5,da⟩
 |goto i=>exact⟨_,aS,H',_,_,_,bp,bC,b5,da⟩
 |ret=>exact⟨_,aS,H',_,_,_,bp,bC,b5,da⟩
 |panic c=>exact⟨_,aS,H',_,_,_,bp,bC,b5,da⟩
 |outgrown=>exact⟨_,aS,H',_,_,_,bp,bC,b5,da⟩
theorem ab.eF{c:Code}{E:cn}{iy:aO}(aw:(m'++iy).Perm m)(h:ab K B c E m' J c0):ab K B c E m J c0:=fun S H ax aJ=>h S H ax ((aJ.perm aw.symm).sub (pZ _ _))
theorem Fn.frame{bh bW:aO}{eO:Value->aO->aI->Prop}(h:Fn K f args bh J eO)(aw:(bh++bW).Perm m):Fn K f args m J fun v m2 ag=>J.le ag/\∃m',m2=m'++bW/\eO v m' ag:=fun H aJ=>by
 obtain⟨v,H',ag,m',aa,ae,aG⟩:=h H (aJ.enter aw trivial);obtain⟨bp,bC⟩:=aJ.leave aw ae;exact⟨v,H',ag,_,aa,bp,bC,m',rfl,aG⟩
end
end
end Go.Opn
