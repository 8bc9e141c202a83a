/- Plain theorems and definitions of this seat, several texts in one. -/
import Derived.Test.YtipdkfmhfakbnaaGreatDoorAa
set_option linter.unusedVariables false
set_option linter.unusedSimpArgs false
set_option linter.unusedSectionVars false
namespace Go.Q
open Go Go.RowKit Go.X
variable [fy]
section
variable {P:Program} {tb:List (dZ P)} {ty:TypeId} {L:SS} {sv:Option Sv} {ef:Ef} {e:Env} {w:World}
theorem ie{t:Nat}{T:dZ P}(h:cZ tb t=some T):P.underlying t=some T.d:=by rw[<-BX h];exact T.hd
theorem gJ{t:Nat}{T:dZ P}(h:cZ tb t=some T):TI P t T.sz T.qZ T.z:=by rw[<-BX h];exact T.ti
theorem beq0{n:Nat}(h:Nat.beq n 0=false):(n==0)=false:=by
 cases n with
 |zero=>cases h
 |succ n=>rfl
theorem vq{ν:Nu}{H:Bool->Hp}{g:Bool}{sz off:Nat}{l:List Lf}{vs:List Value}{s:S1}(h:tC g sz l off=some s)(hl:dz ν H l vs):
 (g=false/\∃v,vs[off]?=some v/\s.R ν H v)\/(g=true/\∃us,us.length=sz/\(vs.drop off).take us.length=us/\s.R ν H (.agg us.toArray)):=by
 unfold tC at h;split at h
 . split at h
   . rename_i hb;cases h;have e1:=ee hb;have h1:=(hl.drop off).take sz;have h2:=h1.length;refine .inr ⟨rfl,_,h2.trans e1,?_,_,rfl,h1⟩;rw[h2,e1]
   . cases h
 . split at h
   . rename_i x hx;cases h;obtain⟨y,g1,g2⟩:=hl.get hx;exact .inl ⟨rfl,y,g1,g2⟩
   . cases h
theorem MF{ν:Nu}{j off:Nat}{l:List Lf}{v:Value}{H:Bool->Hp}(hO:∀i ob,aW L.bL i=some ob->∃b c n k,ν i=some (b,c,n)/\dR w b k/\ob.R ν H c n k)(hp:Lf.R ν H (.ptr j off) v)(ho:aW L.bL j=some (.box l)):
 ∃b vs,v=.pointer (some ⟨b,off,none⟩)/\dR w (some b) (.cells vs)/\dz ν H l vs:=by
 obtain⟨b,c,h1,h2⟩:=hp;obtain⟨b',c',n',k,g1,g2,vs,g3,g4⟩:=hO j _ ho;rw[h1]at g1;cases g1;subst g3;exact⟨b,vs,h2,g2,g4⟩
theorem Jo{ν:Nu}{H:Bool->Hp}{sz:Nat}(hS:dO ν H (aW L.cv) e):∀{parts:List (Nat×Operand)} {l:List Lf} (k:Nat),arC L sz parts=some l->CA k parts=true->
 ∃(vs:List Value) (css:List (List Value)),(parts.map λp=>(p.1,ev e p.2))=mT k vs/\sX sz vs css/\dz ν H l css.flatten/\vs.length=parts.length
 |[],_,k,h,_=>by cases h;exact⟨[],[],rfl,trivial,rfl,rfl⟩
 |(i,x)::r,_,k,h,hn=>by
  simp only[arC]at h;simp only[CA,gz]at hn;split at h
  . rename_i s hx;split at h
    . rename_i hb;split at h
      . rename_i y hy;cases h;obtain⟨us,u1,u2⟩:=uo (dH hS hx);obtain⟨vs,css,g1,g2,g3,g4⟩:=Jo hS (k+1) hy hn.2;have e1:us.length=sz:=by rw[u2.length];exact ee hb
        have e2:=ee hn.1;subst e2;exact⟨ev e x::vs,us::css,by simp only[kZ,g1,mT],⟨u1,e1,g2⟩,u2.append g3,by simp[g4]⟩
      . cases h
    . cases h
  . cases h
theorem JS:∀{fs:List Field} {pl:List (Nat×Nat)},pls tb fs=some pl->placesOf P fs=some pl
 |[],_,h=>by cases h;rfl
 |f::r,_,h=>by
  simp only[pls]at h;split at h
  . rename_i F hF;split at h
    . rename_i y hy;cases h;obtain⟨i,h1,h2,_⟩:=gJ hF;have:=JS hy;unfold placesOf at this⊢;simp only[PE,h1,pL,this,h2];rfl
    . cases h
  . cases h
theorem Nr{ν:Nu}{H:Bool->Hp}{pl:List (Nat×Nat)}(hS:dO ν H (aW L.cv) e):∀{parts:List (Nat×Operand)} {l l':List Lf} {cs:List Value},CC L pl parts l=some l'->dz ν H l cs->
 ∃(is:List Nat) (vs:List Value) (css:List (List Value)) (cs':List Value),(parts.map λp=>(p.1,ev e p.2))=is.zip vs/\is.length=vs.length/\CJ vs css/\td pl cs (is.zip css)=some cs'/\dz ν H l' cs'
 |[],l,_,cs,h,hl=>by cases h;exact⟨[],[],[],cs,rfl,rfl,trivial,rfl,hl⟩
 |(i,x)::r,l,_,cs,h,hl=>by
  simp only[CC]at h;split at h
  . rename_i s hx;split at h
    . rename_i off size hp;split at h
      . rename_i hb;simp only[gz]at hb;obtain⟨us,u1,u2⟩:=uo (dH hS hx);obtain⟨is,vs,css,cs',g1,g2,g3,g4,g5⟩:=Nr hS h (hl.put u2);refine⟨i::is,ev e x::vs,us::css,cs',by simp[g1],by simp[g2],⟨u1,g3⟩,?_,g5⟩;simp only[PH,td,hp];have e1:Nat.beq us.length size=true:=by rw[u2.length];exact hb.1
        have e2:Nat.blt cs.length (off+us.length)=false:=by
         have h2:=lM hb.2;rw[<-u2.length,<-hl.length]at h2;cases hb2:Nat.blt cs.length (off+us.length)with
         |false=>rfl
         |true=>have h3:cs.length+1<=off+us.length:=lM hb2;omega
        rw[e1,e2];exact g4
      . cases h
    . cases h
  . cases h
theorem au_ok{op:Op}(h:au tb L op=some (ef,sv)):LT P L op ty ef sv:=by
 cases op with
 |move x=>
  simp only[au]at h;split at h
  . rename_i s hx;cases h;exact LT.look λν H e w hv ht hO hS=>aF.move rfl ⟨rfl,dH hS hx⟩
  . cases h
 |assign x=>
  simp only[au]at h;split at h
  . rename_i s hx;cases h;exact LT.look λν H e w hv ht hO hS=>aF.assign rfl ⟨rfl,dH hS hx⟩
  . cases h
 |pick c a b=>
  simp only[au]at h;split at h
  . rename_i hc;split at h
    . rename_i s hx;cases h;exact LT.look λν H e w hv ht hO hS=>aF.WR (fe hS hc).1 rfl rfl ⟨rfl,dH hS hx⟩
    . cases h
  . rename_i hc;split at h
    . rename_i s hx;cases h;exact LT.look λν H e w hv ht hO hS=>aF.T7 (fe hS hc).1 rfl rfl ⟨rfl,dH hS hx⟩
    . cases h
  . cases h
 |binOp op t x y u=>
  simp only[au]at h;split at h
  . rename_i a hx;split at h
    . rename_i b hy;split at h
      . rename_i v hv;cases h;exact LT.look λν H e w _ ht hO hS=>Xi hv (fe hS hx).1 (fe hS hy).1 λho=>⟨rfl,rfl,ho⟩
      . cases h
    . cases h
  . cases h
 |unOp op t x=>
  simp only[au]at h;split at h
  . rename_i a hx;split at h
    . rename_i v hv;cases h;exact LT.look λν H e w _ ht hO hS=>Wh hv (fe hS hx).1 λho=>⟨rfl,rfl,ho⟩
    . cases h
  . cases h
 |extract x i=>
  simp only[au]at h;split at h
  . rename_i l hx;split at h
    . rename_i s hg;cases h;refine LT.look λν H e w hv ht hO hS=>?_;obtain⟨vs,h1,h2⟩:=dH hS hx;obtain⟨y,g1,g2⟩:=h2.get hg;exact aF.extract h1 g1 ⟨rfl,g2⟩
    . cases h
  . cases h
 |nilCheck x=>
  simp only[au]at h;split at h
  . rename_i j off hx;cases h;refine LT.look λν H e w hv ht hO hS=>?_;obtain⟨b,c,h1,h2⟩:=dH hS hx;exact aF.nilCheck h2 ⟨rfl,b,c,h1,rfl⟩
  . rename_i κ c off hx;cases h;refine LT.look λν H e w hv ht hO hS=>?_;obtain⟨b,o,vs,h1,h2,h3⟩:=dH hS hx;exact aF.nilCheck h1 ⟨rfl,b,o,vs,rfl,h2,h3⟩
  . cases h
 |field t x i=>
  simp only[au]at h;split at h
  . rename_i T hT;split at h
    . rename_i fs hd;split at h
      . rename_i f hf;split at h
        . rename_i F hF;split at h
          . rename_i l hx;split at h
            . rename_i s hc;cases h;have hu:=ie hT;rw[hd]at hu;refine LT.look λν H e w hv ht hO hS=>?_;obtain⟨vs,h1,h2⟩:=dH hS hx;rcases vq hc h2 with⟨hg,v,k1,k2⟩|⟨hg,us,k0,k1,k2⟩
              . exact aF.R5 hu hf (ie hF) hg h1 k1 ⟨rfl,k2⟩
              . exact aF.TX hu hf (ie hF) hg (gJ hF) h1 (by rw[<-k0];exact k1) ⟨rfl,k2⟩
            . cases h
          . cases h
        . cases h
      . cases h
    . cases h
  . cases h
 |fieldAddr s x i=>
  simp only[au]at h;split at h
  . rename_i T hT;split at h
    . rename_i fs hd;split at h
      . rename_i f hf;split at h
        . rename_i F hF;split at h
          . cases h
          . rename_i hz;have hz':=beq0 hz;have hu:=ie hT;rw[hd]at hu;split at h
            . rename_i j off hx;cases h;refine LT.look λν H e w hv ht hO hS=>?_;obtain⟨b,c,g1,g2⟩:=dH hS hx;exact aF.fieldAddr hu hf (gJ hF) hz' g2 rfl ⟨rfl,b,c,g1,rfl⟩
            . rename_i κ c off hx;cases h;refine LT.look λν H e w hv ht hO hS=>?_;obtain⟨b,o,vs,g1,g2,g3⟩:=dH hS hx;exact aF.fieldAddr hu hf (gJ hF) hz' g1 rfl ⟨rfl,b,o,vs,by rw[qO],g2,g3⟩
            . rename_i j r xs a ix off hx;cases h;refine LT.look λν H e w hv ht hO hS=>?_;obtain⟨b,c,n,g1,g2,g3,g4⟩:=dH hS hx;exact aF.fieldAddr hu hf (gJ hF) hz' g4 rfl ⟨rfl,b,c,n,g1,g2,g3,by rw[qO]⟩
            . rename_i j r κ xs a ix off hx;cases h;refine LT.look λν H e w hv ht hO hS=>?_;obtain⟨b,c,n,m,g1,g2,g3,g4⟩:=dH hS hx;rcases g4 with⟨g4,b',g5,g6⟩|⟨g4,b',o,vs,g5,g6,g7⟩
              . exact aF.fieldAddr hu hf (gJ hF) hz' g6 rfl ⟨rfl,b,c,n,m,g1,g2,g3,.inl ⟨g4,b',g5,by rw[qO]⟩⟩
              . exact aF.fieldAddr hu hf (gJ hF) hz' g5 rfl ⟨rfl,b,c,n,m,g1,g2,g3,.inr ⟨g4,b',o,vs,by rw[qO],g6,g7⟩⟩
            . cases h
        . cases h
      . cases h
    . cases h
  . cases h
 |load t x=>
  simp only[au]at h;split at h
  . rename_i T hT;split at h
    . rename_i j off hx;split at h
      . rename_i l ho;split at h
        . rename_i s hc;cases h;refine LT.look λν H e w hv ht hO hS=>?_;obtain⟨b,vs,g1,g2,g4⟩:=MF hO (dH hS hx) ho;rcases vq hc g4 with⟨hg,v,k1,k2⟩|⟨hg,us,k0,k1,k2⟩
          . exact aF.Oj (ie hT) hg g1 g2 k1 ⟨rfl,k2⟩
          . exact aF.Iq (ie hT) hg (gJ hT) g1 g2 k0 k1 ⟨rfl,k2⟩
        . cases h
      . cases h
    . rename_i κ c off hx;split at h
      . rename_i s hc;cases h;refine LT.look λν H e w hv ht hO hS=>?_;obtain⟨b,o,vs,g1,g2,g3⟩:=dH hS hx;rcases vq hc g3 with⟨hg,v,k1,k2⟩|⟨hg,us,k0,k1,k2⟩
        . refine aF.Mp (H:=H κ) (v:=v) (ie hT) hg g1 (hv κ) ?_ ⟨rfl,k2⟩;refine g2.part off ?_;have hlt:=(eN.1 k1).1;rw[gn hlt];have:=(eN.1 k1).2;simp[this]
        . exact aF.Ou (H:=H κ) (ie hT) hg (gJ hT) g1 k0 (hv κ) (g2.part off k1) ⟨rfl,k2⟩
      . cases h
    . cases h
  . cases h
 |store t x y=>
  simp only[au]at h;split at h
  . rename_i T hT;split at h
    . rename_i j off hx;split at h
      . rename_i s hy;split at h
        . rename_i l ho;split at h
          . rename_i hb;cases h;rw[gz]at hb;have hb1:=ee hb.1;have hb2:=lM hb.2;refine LT.md ho λν H e w b c n k0 hv ht hO hS q1 q2 q3=>?_;obtain⟨vs,rfl,g4⟩:=q3;obtain⟨b',c',g1,g2⟩:=dH hS hx;rw[q1]at g1;cases g1;obtain⟨us,k1,k2⟩:=uo (dH hS hy);have hul:=k2.length;have hvl:=g4.length;refine aF.store (gJ hT) g2 rfl k1 (by omega) k2.fK (jT q2) 0 rfl rfl (by omega) λw' h1 h2=>?_;exact⟨_,h1,λH' hH=>⟨_,rfl,(g4.mono (fu.refl ν) hH).put (k2.mono (fu.refl ν) hH)⟩⟩
          . cases h
        . cases h
      . cases h
    . cases h
  . cases h
 |alloc t=>
  simp only[au]at h;split at h
  . rename_i T hT;split at h
    . rename_i ho;have e1:=dd Prod.fst (jd h);have e2:=dd Prod.snd (jd h);dsimp only at e1 e2;subst e1;subst e2;refine LT.nw λν H e w hv ht hO hS=>?_;exact aF.alloc (cs:=T.z.cells.toList) (gJ hT) (by simp) oY λb w' h1 h2=>⟨some b,0,0,_,h1,λν' H' _ _=>⟨_,rfl,se ho⟩,λν' H' _ _ hn=>⟨b,(0,0),hn,rfl⟩⟩
    . cases h
  . cases h
 |box t x=>
  simp only[au]at h;split at h
  . rename_i s hx;have e1:=dd Prod.fst (jd h);have e2:=dd Prod.snd (jd h);dsimp only at e1 e2;subst e1;subst e2;refine LT.nw λν H e w hv ht hO hS=>?_;obtain⟨vs,k1,k2⟩:=uo (dH hS hx);exact aF.box rfl k1 oY λb w' h1 h2=>⟨some b,0,0,_,h1,λν' H' hν hH=>⟨_,rfl,k2.mono hν hH⟩,λν' H' _ _ hn=>⟨b,(0,0),hn,rfl⟩⟩
  . cases h
 |convert s t x=>
  simp only[au]at h;split at h
  . rename_i A hA;split at h
    . rename_i T hT;split at h
      . rename_i k' hd;split at h
        . rename_i k z hx;cases h;have hu:=ie hT;rw[hd]at hu;exact LT.look λν H e w hv ht hO hS=>aF.S5 (ie hA) hu (fe hS hx).1 rfl ⟨rfl,rfl,rfl⟩
        . cases h
      . cases h
    . cases h
  . cases h
 |call c=>
  obtain⟨callee,args,ats⟩:=c;simp only[au]at h;split at h
  . rename_i hc;split at h
    . rename_i x hx;split at h
      . rename_i t ht;obtain rfl:args=#[x]:=by rw[<-uQ (xs:=args)];exact dd _ hx
        obtain rfl:ats=#[t]:=by rw[<-uQ (xs:=ats)];exact dd _ ht
        split at h
        . rename_i T hT;split at h
          . rename_i el hd;have hu:=ie hT;rw[hd]at hu;split at h
            . rename_i α r κ xs ho;cases h;exact LT.look λν H e w hv ht hO hS=>aF.Gb hu rfl (dH hS ho) ⟨rfl,rfl,rfl⟩
            . rename_i α i r κ xs ho;cases h;refine LT.look λν H e w hv ht hO hS=>?_;obtain⟨b,c,n,h1,h2⟩:=dH hS ho;rcases h2 with⟨e1,e2,e3⟩|⟨e1,e2,_⟩
              . cases b with
                |none=>
                 have hx:=e2 rfl;subst hx;exact aF.Oc hu e3 ⟨rfl,rfl,rfl⟩
                |some b=>exact aF.Nj hu e3 (by rw[e1]) ⟨rfl,rfl,rfl⟩
              . exact aF.Gb hu rfl e2 ⟨rfl,rfl,rfl⟩
            . rename_i α r κ xs ho;cases h;exact LT.look λν H e w hv ht hO hS=>aF.Gb hu rfl (And.left (dH hS ho)) ⟨rfl,rfl,rfl⟩
            . rename_i i ho;split at h
              . rename_i α r κ xs hi;cases h;refine LT.look λν H e w hv ht hO hS=>?_;obtain⟨b,c,n,h1,h2⟩:=dH hS ho;obtain⟨b',c',n',k,g2,g1,g3,g0,cs,sp,g4,g5,g6⟩:=hO i _ hi;rw[h1]at g2;cases g2;subst g4;exact aF.Vt (pre:=[]) (r:=r) (xs:=xs) hu h2 g1 g5 g0 g3 ⟨rfl,rfl,rfl⟩
              . cases h
            . rename_i ho;cases h;exact LT.look λν H e w hv ht hO hS=>aF.Oc hu (dH hS ho).1 ⟨rfl,rfl,rfl⟩
            . rename_i sz lo hi ho;cases h;refine LT.look λν H e w hv ht hO hS=>?_;obtain⟨b,c,m,k,cp,_,e1,e2,e3,e4⟩:=dH hS ho;exact aF.Nj hu e4 (by omega) ⟨rfl,rfl,rfl⟩
            . cases h
          . rename_i hd;have hu:=ie hT;rw[hd]at hu;split at h
            . rename_i l ho;cases h;exact LT.look λν H e w hv ht hO hS=>aF.Qk (s:=l) hu (fe hS ho).1 ⟨rfl,rfl,rfl⟩
            . cases h
          . rename_i kt et hd;have hu:=ie hT;rw[hd]at hu;split at h
            . rename_i i ho;split at h
              . rename_i K V dk kf vf m hi;cases h;refine LT.look λν H e w hv ht hO hS=>?_;obtain⟨b,c,h1,h2⟩:=dH hS ho;obtain⟨b',c',n',k,g2,g1,g3⟩:=hO i _ hi;rw[h1]at g2;cases g2;have g3:k=lF kf vf m:=g3;subst g3;exact aF.Rq (kf:=kf) (vf:=vf) hu h2 g1 ⟨rfl,rfl,rfl⟩
              . cases h
            . cases h
          . cases h
        . cases h
      . cases h
    . cases h
  . rename_i hc;split at h
    . rename_i x y hx;obtain rfl:args=#[x,y]:=by rw[<-uQ (xs:=args)];exact dd _ hx
      split at h
      . rename_i k a ho;split at h
        . rename_i k' b hy;cases h;exact LT.look λν H e w hv ht hO hS=>aF.min (fe hS ho).1 (fe hS hy).1 ⟨rfl,rfl,rfl⟩
        . cases h
      . cases h
    . cases h
  . rename_i hc;split at h
    . rename_i x y hx;obtain rfl:args=#[x,y]:=by rw[<-uQ (xs:=args)];exact dd _ hx
      split at h
      . rename_i k a ho;split at h
        . rename_i k' b hy;cases h;exact LT.look λν H e w hv ht hO hS=>aF.max (fe hS ho).1 (fe hS hy).1 ⟨rfl,rfl,rfl⟩
        . cases h
      . cases h
    . cases h
  . cases h
 |indexAddr t x y=>
  simp only[au]at h;split at h
  . rename_i T hT;split at h
    . rename_i n el hd;split at h
      . rename_i E hE;split at h
        . rename_i k i hy;split at h
          . rename_i hi;have hu:=ie hT;rw[hd]at hu;have hlt:i<n:=by simpa using hi
            split at h
            . rename_i j off hx;cases h;refine LT.look λν H e w hv ht hO hS=>?_;obtain⟨b,c,h1,h2⟩:=dH hS hx;exact aF.Im hu (gJ hE) h2 (fe hS hy).1 hlt rfl ⟨rfl,b,c,h1,rfl⟩
            . rename_i κ c off hx;cases h;refine LT.look λν H e w hv ht hO hS=>?_;obtain⟨b,o,vs,h1,h2,h3⟩:=dH hS hx;exact aF.Im hu (gJ hE) h1 (fe hS hy).1 hlt rfl ⟨rfl,b,o,vs,by rw[qO],h2,h3⟩
            . rename_i j r xs a ix off hx;cases h;refine LT.look λν H e w hv ht hO hS=>?_;obtain⟨b,c,n,g1,g2,g3,g4⟩:=dH hS hx;exact aF.Im hu (gJ hE) g4 (fe hS hy).1 hlt rfl ⟨rfl,b,c,n,g1,g2,g3,by rw[qO]⟩
            . cases h
          . cases h
        . cases h
      . cases h
    . cases h
  . cases h
 |build t parts=>
  simp only[au]at h;split at h
  . rename_i T hT;split at h
    . rename_i fs hd;split at h
      . rename_i pl hp;split at h
        . rename_i ho;split at h
          . rename_i l hl;cases h;have hu:=ie hT;rw[hd]at hu;refine LT.look λν H e w hv ht hO hS=>?_;obtain⟨is,vs,css,cs',g1,g2,g3,g4,g5⟩:=Nr hS hl (se ho);have hpl:Br P t=some pl:=by unfold Br;rw[hu];exact JS hp
            have:=aF.build (ty:=ty) (ρ:=ev e) (w:=w) (R:=λv w'=>w'=w/\(Sv.s (.agg l)).R ν H v) hpl (gJ hT) (by simp) g1 g2 g3 g4 ⟨rfl,cs',rfl,g5⟩;simpa using this
          . cases h
        . cases h
      . cases h
    . rename_i n el hd;split at h
      . rename_i E hE;split at h
        . rename_i hsz;have hsz:=ee hsz;have hu:=ie hT;rw[hd]at hu;split at h
          . rename_i hp;split at h
            . rename_i ho;cases h;obtain rfl:parts=#[]:=by rw[<-uQ (xs:=parts)];exact dd _ hp
              exact LT.look λν H e w hv ht hO hS=>aF.Xz (zc:=T.z.cells.toList) hu (gJ hT) (by simp) (gJ hE) ⟨rfl,_,rfl,se ho⟩
            . cases h
          . rename_i p ps hp;split at h
            . rename_i hn;split at h
              . rename_i l hl;cases h;rw[gz]at hn;have hn2:=ee hn.2;obtain rfl:parts=(p::ps).toArray:=by rw[<-uQ (xs:=parts)];exact dd _ hp
                refine LT.look λν H e w hv ht hO hS=>?_;obtain⟨vs,css,g1,g2,g3,g4⟩:=Jo hS 0 hl hn.1;refine aF.WU (zc:=T.z.cells.toList) hu (gJ hT) (by simp) (gJ hE) ?_ g1 g2 ⟨rfl,_,rfl,g3⟩;rw[g4,cN,hn2];simpa using hsz
              . cases h
            . cases h
        . cases h
      . cases h
    . cases h
  . cases h
 |_=>simp only[au]at h;cases h
end
open Go Go.RowKit Go.X
variable [fy]
section
variable {P:Program} {l:List Oper} {n:Nat}
theorem anyJ{J:(Nat->Bool)->Env->World->Prop}{Qp:Exit->Act->World->Prop}(hok:nm n l=true)(hb:tX l=true)
 (step:∀(D:Nat->Bool) (i:Nat) (o:Oper) (e:Env) (w:World),l[i]?=some o->D i=false->(∀d∈fG o,D d=true)->(∀j oj,l[j]?=some oj->D j=true->∀d∈fG oj,D d=true)->J D e w->me P l o e w λv w'=>J (λj=>D j||Nat.beq j i) (ku e o.dst v) w')
 (hQ:∀(D:Nat->Bool) (a:Act) (w:World),(∀i,i<l.length->D i=true)->a.tmps.size=n->a.defers=[]->J D (dh a) w->Qp .normal a w):
 ∀(fuel:Nat) (listed:Array Bool) (a:Act) (w:World),listed.size=l.length->a.tmps.size=n->a.defers=[]->(∀j oj,l[j]?=some oj->fq listed j->∀d∈fG oj,fq listed d)->J (λj=>listed.getD j false) (dh a) w->ja l listed<=fuel->wpAny P .any l.toArray Qp fuel listed a w:=by
 have fin:∀(listed:Array Bool) (a:Act) (w:World),listed.size=l.length->a.tmps.size=n->a.defers=[]->J (λj=>listed.getD j false) (dh a) w->Region.ready .any l.toArray listed=[]->Qp .normal a w:=by
  intro listed a w hs h1 h2 hJ hr;have hal:=XL hs hb hr;exact hQ _ a w (λi hi=>hal i hi) h1 h2 hJ
 intro fuel
 induction fuel with
 |zero=>
  intro listed a w hs h1 h2 hcl hJ hc;have hr:Region.ready .any l.toArray listed=[]:=by
   apply List.eq_nil_iff_forall_not_mem.2;intro i hi;obtain⟨g1,o,g2,_⟩:=mem_ready.1 hi;have hil:i<l.length:=by
    rw[xi]at g2;exact(eN.1 g2).1
   have:=Tf (by omega:ja l listed=0) hil;rw[g1]at this;cases this
  exact⟨hr,fin listed a w hs h1 h2 hJ hr⟩
 |succ fuel ih=>
  intro listed a w hs h1 h2 hcl hJ hc;refine⟨λhr=>fin listed a w hs h1 h2 hJ hr,λi hi=>?_⟩;have hil:i<l.length:=by
   obtain⟨_,o,g2,_⟩:=mem_ready.1 hi;rw[xi]at g2;exact(eN.1 g2).1
  have ho:l[i]?=some l[i]:=cy hil;obtain⟨hun,hdeps⟩:=Ti hi ho;have hnl:¬fq listed i:=(unl hs hil).2 hun;have hcn:=Xr hs hil hun;have hdd:∀o,o∈l->∀d,o.dst=some d->d<a.tmps.size:=by rw[h1];exact Da hok
  have hst:=step (λj=>listed.getD j false) i l[i] (dh a) w ho (by cases hb2:listed.getD i false with
   |false=>rfl
   |true=>exact bX hb2 hnl) hdeps hcl hJ
  refine T6 hdd ho hst λv w' hv=>?_;refine ih _ _ w' (by simp[hs]) (by rw[qD];exact h1) (by rw[sr];exact h2) (WL hs hil hcl hdeps) ?_ (by omega);have e1:(λj=>(listed.setIfInBounds i true).getD j false)=λj=>listed.getD j false||Nat.beq j i:=by
   funext j;have hh:=Mu (l:=l) hs (i:=i) (j:=j) hil;unfold fq at hh;cases hb3:listed.getD j false with
   |true=>rw[hh.2 (.inl hb3)];rfl
   |false=>
    cases hb4:Nat.beq j i with
    |true=>rw[hh.2 (.inr (ee hb4))];rfl
    |false=>
     cases hb5:(listed.setIfInBounds i true).getD j false with
     |false=>rfl
     |true=>
      rcases hh.1 hb5 with h|h
      . rw[hb3]at h;cases h
      . subst h;rw[sK]at hb4;cases hb4
  rw[e1,vB a h1 (λk hk=>by rw[<-h1];exact hdd _ (oB ho) k hk)];exact hv
theorem cO.drawJ{id:Nat}{k:List It}{Qr:Env->World->Prop}{e:Env}{w:World}{J:(Nat->Bool)->Env->World->Prop}(hm:P.follows .mixedOrders=true)(hok:nm n l=true)(hb:tX l=true)
 (h0:∀w1,w1.os=w.os->w1.tape=w.tape->w1.output=w.output->w1.heap=w.heap->J (λ_=>false) e w1)
 (step:∀(D:Nat->Bool) (i:Nat) (o:Oper) (e:Env) (w:World),l[i]?=some o->D i=false->(∀d∈fG o,D d=true)->(∀j oj,l[j]?=some oj->D j=true->∀d∈fG oj,D d=true)->J D e w->me P l o e w λv w'=>J (λj=>D j||Nat.beq j i) (ku e o.dst v) w')
 (hQ:∀(D:Nat->Bool) (e:Env) (w:World),(∀i,i<l.length->D i=true)->J D e w->cO P n k Qr e w):cO P n (.code (.region id l.toArray true)::k) Qr e w:=by
 intro a h1 h2 h3;subst h3;refine wp_region_any hm ?_;have hno:∀j,¬fq (Array.replicate l.toArray.size false) j:=λj hj=>by unfold fq at hj;rw[getD_replicate_false]at hj;cases hj
 refine anyJ (J:=J) hok hb step (λD a' w' hD g1 g2 g3=>⟨g1,g2,hQ D _ _ hD g3⟩) l.toArray.size (Array.replicate l.toArray.size false) a _ (by simp) h1 h2 (λj oj _ hj=>bX hj (hno j)) ?_ ?_
 . have e1:(λj=>(Array.replicate l.toArray.size false).getD j false)=λ_=>false:=by
    funext j;rw[getD_replicate_false]
   rw[e1];exact h0 _ rfl rfl rfl rfl
 . unfold ja;refine bV (qT _ _) (by simp)
end
open Go Go.RowKit Go.X
variable [fy]
structure Ev:Type 1 where
 rd:List Nat
 ro:List Nat
 nx:Nat
 dst:Option Nat
 sv:Option Sv
 ef:Ef
def oc(d:Option Nat)(sv:Option Sv)(sl:List (Nat×Option Sv)):List (Nat×Option Sv):=match d with
 |some d=>(d,sv)::sl
 |none=>sl
abbrev Ev.su(ev:Ev):List (Nat×Option Sv):=oc ev.dst ev.sv ev.ef.sl
abbrev Ev.ks(ev:Ev):List Nat:=ev.ef.up.map (·.1)
def fO(D:Nat->Bool):Nat->List Ev->OF->OF
 |_,[],f=>f
 |j,ev::r,f=>fO D (j+1) r (bif D j then bS ev.ef.up f else f)
def fS(D:Nat->Bool):Nat->List Ev->SF->SF
 |_,[],f=>f
 |j,ev::r,f=>fS D (j+1) r (bif D j then bS ev.su f else f)
abbrev Tr:Nat->Bool:=λ_=>true
section
variable {D D':Nat->Bool}
theorem GC:∀{l:List Ev} {j:Nat} {f g:OF} {x:Nat},f x=g x->fO D j l f x=fO D j l g x
 |[],_,_,_,_,h=>h
 |ev::r,j,f,g,x,h=>by
  show fO D (j+1) r _ x=fO D (j+1) r _ x;apply GC;cases D j with
  |false=>exact h
  |true=>
   show bS ev.ef.up f x=bS ev.ef.up g x;cases hm:cI x ev.ks with
   |true=>exact rM hm
   |false=>rw[kJ hm,kJ hm];exact h
theorem F1:∀{l1 l2:List Ev} {j:Nat} {f:OF},fO D j (l1++l2) f=fO D (j+l1.length) l2 (fO D j l1 f)
 |[],_,_,_=>rfl
 |ev::r,l2,j,f=>by
  show fO D (j+1) (r++l2) _=fO D (j+(r.length+1)) l2 (fO D (j+1) r _);rw[F1,show j+1+r.length=j+(r.length+1) by omega]
theorem uc:∀{l:List Ev} {j:Nat} {f:OF} {x:Nat},(∀i ev,l[i]?=some ev->D (j+i)=D' (j+i)\/cI x ev.ks=false)->fO D j l f x=fO D' j l f x
 |[],_,_,_,_=>rfl
 |ev::r,j,f,x,h=>by
  show fO D (j+1) r _ x=fO D' (j+1) r _ x;rw[uc (l:=r) (j:=j+1) (λi ev' hi=>by
   have:=h (i+1) ev' (by simpa using hi);rwa[show j+(i+1)=j+1+i by omega]at this)]
  apply GC;rcases h 0 ev rfl with h|h
  . rw[show j+0=j from rfl]at h;rw[h]
  . have h1:∀b:Bool,(bif b then bS ev.ef.up f else f) x=f x:=λb=>by cases b with
     |true=>exact kJ h
     |false=>rfl
    rw[h1,h1]
theorem EE:∀{l:List Ev} {j:Nat} {f g:SF} {x:Nat},f x=g x->fS D j l f x=fS D j l g x
 |[],_,_,_,_,h=>h
 |ev::r,j,f,g,x,h=>by
  show fS D (j+1) r _ x=fS D (j+1) r _ x;apply EE;cases D j with
  |false=>exact h
  |true=>
   show bS ev.su f x=bS ev.su g x;cases hm:cI x (ev.su.map (·.1))with
   |true=>exact rM hm
   |false=>rw[kJ hm,kJ hm];exact h
theorem Gk:∀{l1 l2:List Ev} {j:Nat} {f:SF},fS D j (l1++l2) f=fS D (j+l1.length) l2 (fS D j l1 f)
 |[],_,_,_=>rfl
 |ev::r,l2,j,f=>by
  show fS D (j+1) (r++l2) _=fS D (j+(r.length+1)) l2 (fS D (j+1) r _);rw[Gk,show j+1+r.length=j+(r.length+1) by omega]
theorem tN:∀{l:List Ev} {j:Nat} {f:SF} {x:Nat},(∀i ev,l[i]?=some ev->D (j+i)=D' (j+i)\/cI x (ev.su.map (·.1))=false)->fS D j l f x=fS D' j l f x
 |[],_,_,_,_=>rfl
 |ev::r,j,f,x,h=>by
  show fS D (j+1) r _ x=fS D' (j+1) r _ x;rw[tN (l:=r) (j:=j+1) (λi ev' hi=>by
   have:=h (i+1) ev' (by simpa using hi);rwa[show j+(i+1)=j+1+i by omega]at this)]
  apply EE;rcases h 0 ev rfl with h|h
  . rw[show j+0=j from rfl]at h;rw[h]
  . have h1:∀b:Bool,(bif b then bS ev.su f else f) x=f x:=λb=>by cases b with
     |true=>exact kJ h
     |false=>rfl
    rw[h1,h1]
end
structure En where
 rd:Nat
 ro:Nat
 nx:Nat
 ne:Nat
 dst:Nat
 ks:Nat
def ji:List Nat->Nat
 |[]=>0
 |x::r=>(1<<<x)|||ji r
theorem CS:∀{l:List Nat} {x:Nat},Nat.testBit (ji l) x=cI x l
 |[],x=>by simp[ji,cI]
 |y::r,x=>by
  show Nat.testBit ((1<<<y)|||ji r) x=(Nat.beq x y||cI x r);rw[IN,CS,Nat.testBit_shiftLeft];congr 1;cases hb:Nat.beq x y with
  |true=>
   have:=ee hb;subst this;simp
  |false=>
   have hne:x≠y:=by rintro rfl;rw[sK]at hb;cases hb
   cases h1:decide (x≥y)with
   |false=>rfl
   |true=>
    have:=jf h1;rw[Bool.true_and];cases h2:Nat.testBit 1 (x-y)with
    |false=>rfl
    |true=>rw[XS]at h2;omega
def mF:List Nat->Nat->Nat
 |[],a=>a
 |x::r,a=>mF r (a|||(1<<<(0+x)))
theorem BQ:∀{l:List Nat} {a x:Nat},Nat.testBit (mF l a) x=(Nat.testBit a x||cI x l)
 |[],a,x=>by simp[mF,cI]
 |y::r,a,x=>by
  show Nat.testBit (mF r (a|||(1<<<(0+y)))) x=(Nat.testBit a x||(Nat.beq x y||cI x r));have h1:Nat.testBit (1<<<(0+y)) x=Nat.beq x y:=by
   have:=CS (l:=[y]) (x:=x);simp only[ji,Nat.or_zero,cI,Bool.or_false]at this;rw[ff];exact this
  rw[BQ,IN,h1,Bool.or_assoc]
structure Er where
 rd:Nat
 ro:List Nat
 nx:Nat
 ne:Nat
 dst:Nat
 dl:List Nat
 ks:List Nat
def Er.en(e:Er):En:=⟨e.rd,mF e.ro 0,0+e.nx,0+e.ne,mF e.dl e.dst,mF e.ks 0⟩
def Ev.er(ev:Ev):Er:=⟨ji ev.rd,ev.ro,ev.nx,ev.nx+ev.ef.n,ji ev.dst.toList,ev.ef.sl.map (·.1),ev.ks⟩
abbrev Ev.en(ev:Ev):En:=ev.er.en
theorem OM{ev:Ev}{x:Nat}:Nat.testBit ev.en.rd x=cI x ev.rd:=CS
theorem Na{ev:Ev}{x:Nat}:Nat.testBit ev.en.ro x=cI x ev.ro:=by show Nat.testBit (mF ev.ro 0) x=_;rw[BQ];simp
theorem CV{ev:Ev}{x:Nat}:Nat.testBit ev.en.ks x=cI x ev.ks:=by show Nat.testBit (mF ev.ks 0) x=_;rw[BQ];simp
theorem Cc{ev:Ev}{x:Nat}:Nat.testBit ev.en.dst x=cI x (ev.su.map (·.1)):=by
 show Nat.testBit (mF (ev.ef.sl.map (·.1)) (ji ev.dst.toList)) x=_;rw[BQ,CS];unfold Ev.su oc;cases ev.dst<;>simp[cI]
theorem wK{a b x:Nat}(h:Nat.beq (a&&&b) 0=true)(hx:Nat.testBit a x=true):Nat.testBit b x=false:=by
 have h:=ee h;have h1:Nat.testBit (a&&&b) x=false:=by rw[h];simp
 rw[Nat.testBit_and,hx,Bool.true_and]at h1;exact h1
def o6(a b:En):Bool:=Nat.beq (b.ro&&&a.ks) 0&&Nat.beq (b.ks&&&a.ks) 0&&Nat.beq (a.ro&&&b.ks) 0&&Nat.beq (b.rd&&&a.dst) 0&&Nat.beq (a.rd&&&b.dst) 0&&Nat.beq (a.dst&&&b.dst) 0
theorem wH{a b:Ev}(h:o6 a.en b.en=true):(∀x∈b.ro,cI x a.ks=false)/\(∀x∈b.ks,cI x a.ks=false)/\(∀x∈a.ro,cI x b.ks=false)/\(∀x∈b.rd,cI x (a.su.map (·.1))=false)/\(∀x∈a.rd,cI x (b.su.map (·.1))=false)/\∀x∈a.su.map (·.1),cI x (b.su.map (·.1))=false:=by
 simp only[o6,gz]at h;obtain⟨⟨⟨⟨⟨h1,h2⟩,h3⟩,h4⟩,h5⟩,h6⟩:=h;refine⟨λx hx=>?_,λx hx=>?_,λx hx=>?_,λx hx=>?_,λx hx=>?_,λx hx=>?_⟩
 . rw[<-CV];exact wK h1 (by rw[Na];exact jH.2 hx)
 . rw[<-CV];exact wK h2 (by rw[CV];exact jH.2 hx)
 . rw[<-CV];exact wK h3 (by rw[Na];exact jH.2 hx)
 . rw[<-Cc];exact wK h4 (by rw[OM];exact jH.2 hx)
 . rw[<-Cc];exact wK h5 (by rw[OM];exact jH.2 hx)
 . rw[<-Cc];exact wK h6 (by rw[Cc];exact jH.2 hx)
def w5(acc:List Nat)(ds:List Nat):Nat:=ds.foldl (λm d=>m|||(1<<<d)|||acc.getD d 0) 0
def vS:List Nat->List (List Nat)->List Nat
 |acc,[]=>acc
 |acc,ds::r=>vS (acc++[w5 acc ds]) r
def Fg(m i:Nat):Bool:=Nat.beq (Nat.land (Nat.shiftRight m i) 1) 1
theorem WY{m i:Nat}:Fg m i=Nat.testBit m i:=by
 unfold Fg Nat.testBit;show Nat.beq ((m>>>i)&&&1) 1=(1&&&(m>>>i)!=0);rw[Nat.and_comm 1,Nat.and_one_is_mod];rcases Nat.mod_two_eq_zero_or_one (m>>>i)with h|h<;>rw[h]<;>rfl
def qJ:Nat->List En->List Nat->Bool
 |_,[],_=>true
 |i,a::r,ms=>match ms with
  |[]=>false
  |_::ms=>chkR i a r ms&&qJ (i+1) r ms
where chkR (i:Nat) (a:En):List En->List Nat->Bool
 |[],_=>true
 |b::r,ms=>match ms with
  |[]=>false
  |m::ms=>Nat.ble a.ne b.nx&&(Fg m i||o6 a b)&&chkR i a r ms
def rL(m nE:Nat)(all:List Oper)(es:List En):Bool:=(Nat.beq es.length all.length&&Nat.ble m nE)&&tX all&&(all.all λo=>!LW o.op)&&(es.all λe=>Nat.ble m e.nx&&Nat.ble e.ne nE)&&qJ 0 es (vS [] (all.map fG))
def fB:Nat->(Nat->Bool)->Bool
 |0,K=>K 0
 |n+1,K=>K (n+1)
theorem zv{n:Nat}{K:Nat->Bool}:fB n K=K n:=by cases n<;>rfl
def Gl:List Nat->Nat->(List Nat->Bool)->Bool
 |[],m,K=>K [m]
 |x::r,m,K=>Gl r m λr'=>K (x::r')
theorem Og:∀{l:List Nat} {m:Nat} {K:List Nat->Bool},Gl l m K=K (l++[m])
 |[],_,_=>rfl
 |_::r,_,_=>Og (l:=r)
def Gw:List Nat->List (List Nat)->(List Nat->Bool)->Bool
 |acc,[],K=>K acc
 |acc,ds::r,K=>fB (w5 acc ds) λm=>Gl acc m λacc'=>Gw acc' r K
theorem O7:∀{r:List (List Nat)} {acc:List Nat} {K:List Nat->Bool},Gw acc r K=K (vS acc r)
 |[],_,_=>rfl
 |ds::r,acc,K=>by show fB _ _=_;rw[zv,Og,O7 (r:=r)];rfl
def GF:Nat->List En->List Nat->Bool
 |_,[],_=>true
 |i,a::r,ms=>match ms with
  |[]=>false
  |_::ms=>qJ.chkR i a r ms&&fB (i+1) λi=>GF i r ms
theorem Pc:∀{es:List En} {i:Nat} {ms:List Nat},GF i es ms=qJ i es ms
 |[],_,_=>rfl
 |a::r,i,[]=>rfl
 |a::r,i,m::ms=>by show(_&&fB _ _)=_;rw[zv,Pc (es:=r)];rfl
def cB:Nat->Nat->(Nat->Bool)->Bool
 |0,a,K=>K a
 |n+1,a,K=>cB n (a+1) K
theorem C4:∀{n a:Nat} {K:Nat->Bool},cB n a K=K (a+n)
 |0,_,_=>rfl
 |n+1,a,K=>by show cB n (a+1) K=_;rw[C4,show a+1+n=a+(n+1) by omega]
def cLB:List Nat->Nat->(Nat->Bool)->Bool
 |[],a,K=>K a
 |x::r,a,K=>cB x 0 λx=>fB (a|||(1<<<x)) λa=>cLB r a K
theorem MN:∀{l:List Nat} {a:Nat} {K:Nat->Bool},cLB l a K=K (mF l a)
 |[],_,_=>rfl
 |x::r,a,K=>by show cB x 0 _=_;rw[C4,zv,MN];rfl
def HU:List Er->(List En->Bool)->Bool
 |[],K=>K []
 |e::r,K=>fB e.rd λrd=>cLB e.ro 0 λro=>cB e.nx 0 λnx=>fB nx λnx=>cB e.ne 0 λne=>fB ne λne=>fB e.dst λd=>cLB e.dl d λdst=>cLB e.ks 0 λks=>HU r λes=>K (⟨rd,ro,nx,ne,dst,ks⟩::es)
theorem Ol:∀{l:List Er} {K:List En->Bool},HU l K=K (l.map Er.en)
 |[],_=>rfl
 |e::r,K=>by
  show fB e.rd _=_;simp only[zv,C4,MN];rw[Ol (l:=r)];rfl
def Gd(m nE:Nat)(all:List Oper)(es:List Er):Bool:=cB m 0 λm=>fB m λm=>cB nE 0 λnE=>fB nE λnE=>HU es λes=>(Nat.beq es.length all.length&&Nat.ble m nE)&&tX all&&(all.all λo=>!LW o.op)&&(es.all λe=>Nat.ble m e.nx&&Nat.ble e.ne nE)&&Gw [] (all.map fG) λms=>GF 0 es ms
theorem QV{m nE:Nat}{all:List Oper}{es:List Er}:Gd m nE all es=rL m nE all (es.map Er.en):=by
 unfold Gd rL;simp only[C4,zv,Ol,O7,Pc,ff]
theorem Oe{acc:List Nat}{i:Nat}:∀{ds:List Nat} {m:Nat},Nat.testBit (ds.foldl (λm d=>m|||(1<<<d)|||acc.getD d 0) m) i=true->Nat.testBit m i=true\/∃d∈ds,d=i\/Nat.testBit (acc.getD d 0) i=true
 |[],m,h=>.inl h
 |d::r,m,h=>by
  rcases Oe (ds:=r) h with h|⟨d',h1,h2⟩
  . rw[IN,IN,xo,xo]at h;rcases h with(h|h)|h
    . exact .inl h
    . refine .inr ⟨d,cU,.inl ?_⟩;rw[Nat.testBit_shiftLeft,gz,XS]at h;have h1:=jf h.1;omega
    . exact .inr ⟨d,cU,.inr h⟩
  . exact .inr ⟨d',cP _ h1,h2⟩
theorem Pr{dl:List (List Nat)}{cl:Nat->Prop}:∀{r:List (List Nat)} {acc done:List (List Nat)} {am:List Nat},dl=done++r->am.length=done.length->
 (∀(j:Nat),j<done.length->∀(i:Nat),Nat.testBit (am.getD j 0) i=true->i∈dl.getD j []\/∃d∈dl.getD j [],Nat.testBit (am.getD d 0) i=true/\d<done.length)->
 (∀(j:Nat) (ds:List Nat),dl[j]?=some ds->∀d∈ds,d<j)->
 ∀(j:Nat),j<dl.length->∀(i:Nat),Nat.testBit ((vS am r).getD j 0) i=true->i∈dl.getD j []\/∃d∈dl.getD j [],Nat.testBit ((vS am r).getD d 0) i=true
 |[],acc,done,am,hd,hl,h,hb=>λj hj i hi=>by
  rw[lH]at hd;subst hd;rcases h j hj i hi with h|⟨d,h1,h2,_⟩
  . exact .inl h
  . exact .inr ⟨d,h1,h2⟩
 |ds::r,acc,done,am,hd,hl,h,hb=>by
  intro j hj i hi;have key:=Pr (dl:=dl) (cl:=cl) (r:=r) (acc:=acc) (done:=done++[ds]) (am:=am++[w5 am ds]) (by rw[hd];simp) (by simp[hl]) ?_ hb j hj i hi
  . exact key
  . intro j hj i hi;have hds:dl[done.length]?=some ds:=by rw[hd];simp
    rcases cG j done.length with h1|h1
    . have e1:(am++[w5 am ds]).getD j 0=am.getD j 0:=by simp[cL,kW (show j<am.length by omega)]
      rw[e1]at hi;rcases h j h1 i hi with h2|⟨d,h2,h3,h4⟩
      . exact .inl h2
      . exact .inr ⟨d,h2,by simpa[cL,kW (show d<am.length by omega)]using h3,by simp;omega⟩
    . have e0:j=done.length:=by simp at hj;omega
      subst e0;have e1:(am++[w5 am ds]).getD done.length 0=w5 am ds:=by rw[<-hl];simp[cL]
      rw[e1]at hi;have e2:dl.getD done.length []=ds:=by rw[cL,hds];rfl
      rw[e2];rcases Oe hi with h2|⟨d,h2,h3⟩
      . simp at h2
      . rcases h3 with h3|h3
        . subst h3;exact .inl h2
        . have hlt:=hb _ _ hds d h2;exact .inr ⟨d,h2,by simpa[cL,kW (show d<am.length by omega)]using h3,by simp;omega⟩
theorem MC{all:List Oper}{D:Nat->Bool}(hb:tX all=true)(hcl:∀j oj,all[j]?=some oj->D j=true->∀d∈fG oj,D d=true):
 ∀(j:Nat) (oj:Oper) (i:Nat),all[j]?=some oj->(∀d∈fG oj,D d=true)->Nat.testBit ((vS [] (all.map fG)).getD j 0) i=true->D i=true:=by
 have hb':∀(j:Nat) (ds:List Nat),(all.map fG)[j]?=some ds->∀d∈ds,d<j:=by
  intro j ds h d hd;rw[iA]at h;cases ho:all[j]?with
  |none=>rw[ho]at h;cases h
  |some o=>rw[ho]at h;cases h;exact CM hb ho hd
 have key:=Pr (dl:=all.map fG) (cl:=λ_=>True) (r:=all.map fG) (acc:=[]) (done:=[]) (am:=[]) rfl rfl (λ(j:Nat) (hj:j<0)=>bX hj (by simp)) hb';intro j
 induction j using Nat.strongRecOn with
 |_ j ih=>
  intro oj i ho hd hi;have hj:j<(all.map fG).length:=by rw[cS];exact(eN.1 ho).1
  have e1:(all.map fG).getD j []=fG oj:=by rw[cL,iA,ho];rfl
  rcases key j hj i hi with h|⟨d,h1,h2⟩
  . rw[e1]at h;exact hd i h
  . rw[e1]at h1;have hlt:=CM hb ho h1;have hdl:d<all.length:=by rw[cS]at hj;omega
    have hdo:all[d]?=some all[d]:=cy hdl;exact ih d hlt all[d] i hdo (hcl d _ hdo (hd d h1)) h2
theorem Ju{i:Nat}{a:En}:∀{r:List En} {ms:List Nat},qJ.chkR i a r ms=true->∀(k:Nat) (b:En),r[k]?=some b->∃m,ms[k]?=some m/\a.ne<=b.nx/\(Nat.testBit m i=true\/o6 a b=true)
 |[],_,_,k,b,h=>by simp at h
 |x::r,[],h,_,_,_=>by cases h
 |x::r,m::ms,h,k,b,hb=>by
  simp only[qJ.chkR,gz,xo]at h;cases k with
  |zero=>simp at hb;subst hb;exact⟨m,rfl,lM h.1.1,by rw[<-WY];exact h.1.2⟩
  |succ k=>
   obtain⟨m',h1,h2⟩:=Ju h.2 k b (by simpa using hb);exact⟨m',by simpa using h1,h2⟩
theorem Lm:∀{es:List En} {i:Nat} {ms:List Nat},qJ i es ms=true->∀(p q:Nat) (a b:En),es[p]?=some a->es[q]?=some b->p<q->∃m,ms[q]?=some m/\a.ne<=b.nx/\(Nat.testBit m (i+p)=true\/o6 a b=true)
 |[],_,_,_,p,q,a,b,h,_,_=>by simp at h
 |x::r,_,[],h,_,_,_,_,_,_,_=>by cases h
 |x::r,i,_::ms,h,p,q,a,b,hp,hq,hlt=>by
  simp only[qJ,gz]at h;cases q with
  |zero=>omega
  |succ q=>
   have hq':r[q]?=some b:=by simpa using hq
   cases p with
   |zero=>
    simp at hp;subst hp;obtain⟨m,h1,h2⟩:=Ju h.1 q b hq';exact⟨m,by simpa using h1,h2⟩
   |succ p=>
    obtain⟨m,h1,h2⟩:=Lm h.2 p q a b (by simpa using hp) hq' (by omega);rw[show i+1+p=i+(p+1) by omega]at h2;exact⟨m,by simpa using h1,h2⟩
theorem AB{ms:List Nat}{es:List En}(h:qJ 0 es ms=true)(p q:Nat)(a b:En)(hp:es[p]?=some a)(hq:es[q]?=some b)(hlt:p<q):a.ne<=b.nx/\(Nat.testBit (ms.getD (0+q) 0) (0+p)=true\/o6 a b=true):=by
 obtain⟨m,h1,h2⟩:=Lm h p q a b hp hq hlt;rw[ff q,cL,h1];exact h2
open Go Go.RowKit Go.X
variable [fy]
structure Fx where
 n:Nat
 Q:Env->World->Prop
 X:Nat->Prop
 w0:World
 H0:Bool->Hp
 m:Nat
 ν0:Nu
def St(F:Fx)(L:SS)(e:Env)(w:World):Prop:= ∃ν,(∀k,L.nx<=k->ν k=none)/\F.m<=L.nx/\(∀k,k<F.m->ν k=F.ν0 k)/\de F.X F.w0 F.H0 ν (aW L.bL) w/\dO ν (HF F.X F.w0 F.H0 ν (aW L.bL) w) (aW L.cv) e
def SS.mJ(L:SS)(ef:Ef):SS:=⟨L.nx+ef.n,ef.up++L.bL,ef.sl++L.cv⟩
def SS.set(L:SS)(d:Nat)(s:Option Sv):SS:=⟨L.nx,L.bL,(d,s)::L.cv⟩
def SS.nr(L:SS):Option Nat->Option Sv->SS
 |some d,s=>L.set d s
 |none,_=>L
theorem NF{L:SS}{d:Nat}{s:Option Sv}:aW (L.set d s).cv=yz (aW L.cv) d s:=rfl
theorem rq{L:SS}{d:Option Nat}{s:Option Sv}:aW (L.nr d s).cv=H3 (aW L.cv) d s:=by cases d<;>rfl
theorem lR{L:SS}{d:Option Nat}{s:Option Sv}:(L.nr d s).bL=L.bL/\(L.nr d s).nx=L.nx:=by cases d<;>exact⟨rfl,rfl⟩
theorem pR{L:SS}{ef:Ef}:aW (L.mJ ef).bL=bS ef.up (aW L.bL):=by funext t;exact re _ _ _
theorem um{L:SS}{ef:Ef}:aW (L.mJ ef).cv=bS ef.sl (aW L.cv):=by funext t;exact re _ _ _
theorem dO.ap{ν:Nu}{H:Bool->Hp}{f:SF}{e:Env}{l:List (Nat×Option Sv)}(h:dO ν H f e)(hl:dO ν H (aW l) e):dO ν H (bS l f) e:=by
 intro t sv ht;cases hm:cI t (l.map (·.1))with
 |false=>rw[kJ hm]at ht;exact h t sv ht
 |true=>
  refine hl t sv ?_;have:bS l f t=bS l (aW []) t:=rM hm;rw[<-re,lH]at this;rw[<-this];exact ht
inductive Md where
 |rg (all r:List Oper) (kn:List (Nat×Bool))
 |sw
def apn{α:Type 1}:List α->List α->List α
 |[],r=>r
 |x::l,r=>x::(l++r)
theorem Vn{α:Type 1}{l r:List α}:apn l r=l++r:=by cases l<;>rfl
def addN(n:Nat):Nat->Nat
 |0=>n
 |m+1=>n+(m+1)
theorem TC{n m:Nat}:addN n m=n+m:=by cases m<;>rfl
def lr(L:SS)(ef:Ef)(d:Option Nat)(sv:Option Sv)(K:SS->Prop):Prop:=match L with
 |⟨n,os,ss⟩=>match ef with
  |⟨m,up,sl⟩=>match d with
   |some d=>K ⟨addN n m,apn up os,(d,sv)::apn sl ss⟩
   |none=>K ⟨addN n m,apn up os,apn sl ss⟩
theorem oM{L:SS}{ef:Ef}{d:Option Nat}{sv:Option Sv}{K:SS->Prop}(h:lr L ef d sv K):K ((L.mJ ef).nr d sv):=by
 obtain⟨n,os,ss⟩:=L;obtain⟨m,up,sl⟩:=ef;cases d<;>simp only[lr,Vn,TC]at h<;>exact h
def zg(L:SS)(d:Nat)(s:Option Sv)(K:SS->Prop):Prop:=match L with
 |⟨n,os,ss⟩=>K ⟨n,os,(d,s)::ss⟩
theorem Dc{L:SS}{d:Nat}{s:Option Sv}{K:SS->Prop}(h:zg L d s K):K (L.set d s):=h
def BC:Bool->(Bool->Prop)->Prop
 |true,K=>K true
 |false,K=>K false
theorem Pn:∀{x:Bool} {K:Bool->Prop},BC x K->K x
 |true,_,h=>h
 |false,_,h=>h
structure jV {P:Program}(tb:List (dZ P))(F:Fx)(k:List It)(L:SS):Prop where
 ok:∀e w,St F L e w->cO P F.n k F.Q e w
structure RlN {P:Program}(tb:List (dZ P))(F:Fx)(all r:List Oper)(k:List It)(L:SS):Prop where
 ok:∀e w,St F L e w->Rl P all r (cO P F.n k F.Q) e w
structure cJ {P:Program}(tb:List (dZ P))(o:Oper)(L:SS)(K:Ef->Option Sv->Prop):Prop where
 ok:∃ef sv,LT P L o.op o.type ef sv/\K ef sv
structure vP {P:Program}(tb:List (dZ P))(F:Fx)(L:SS):Prop where
 ok:∀e w,St F L e w->F.Q e w
structure wX {P:Program}(tb:List (dZ P))(F:Fx)(J:Env->World->Prop)(L:SS):Prop where
 ok:∀e w,St F L e w->J e w
def pU{P:Program}(tb:List (dZ P))(o:Oper)(L:SS)(K:Ef->Option Sv->Prop):Prop:=match au tb L o.op with
 |some (ef,sv)=>K ef sv
 |none=>cJ tb o L K
theorem BJ{P:Program}{tb:List (dZ P)}{o:Oper}{L:SS}{K:Ef->Option Sv->Prop}(h:pU tb o L K):∃ef sv,LT P L o.op o.type ef sv/\K ef sv:=by
 unfold pU at h;split at h
 . rename_i ef sv hau;exact⟨ef,sv,au_ok hau,h⟩
 . exact h.ok
def Lv:List Oper->Bool
 |[]=>true
 |o::r=>match o.guard with
  |none=>Lv r
  |some _=>false
def tJ:Bool->Bool->Bool
 |true,b=>b
 |false,true=>false
 |false,false=>true
theorem o9{x b:Bool}:tJ x b=(x==b):=by cases x<;>cases b<;>rfl
def GU:List (Nat×Bool)->Nat->Option Bool
 |[],_=>none
 |(d,s)::r,t=>bif Nat.beq t d then some s else GU r t
def Gst{P:Program}(tb:List (dZ P))(F:Fx)(ih:Md->List It->SS->Prop):Md->List It->SS->Prop
 |.rg all [] _,k,L=>ih .sw k L
 |.rg all (o::r) kn,k,L=>match o.guard with
  |none=>pU tb o L λef sv=>lr L ef o.dst sv λL=>ih (.rg all r kn) k L
  |some (j,b)=>match mR all j with
   |some dj=>match aW L.cv dj with
    |some (.s (.lf (.v (.bool x))))=>match GU kn j with
     |some x'=>match tJ x x' with
      |true=>match tJ x' b with
       |true=>pU tb o L λef sv=>lr L ef o.dst sv λL=>ih (.rg all r kn) k L
       |false=>lr L .z o.dst (some (.fX [])) λL=>ih (.rg all r kn) k L
      |false=>RlN tb F all (o::r) k L
     |none=>BC x λx'=>match tJ x' b with
      |true=>zg L dj (eX (.bool x')) λL=>pU tb o L λef sv=>lr L ef o.dst sv λL=>ih (.rg all r ((j,x')::kn)) k L
      |false=>zg L dj (eX (.bool x')) λL=>lr L .z o.dst (some (.fX [])) λL=>ih (.rg all r ((j,x')::kn)) k L
    |some (.fX [])=>lr L .z o.dst (some (.fX [])) λL=>ih (.rg all r kn) k L
    |_=>RlN tb F all (o::r) k L
   |none=>RlN tb F all (o::r) k L
 |.sw,[],L=>vP tb F L
 |.sw,.dP _::k,L=>ih .sw k L
 |.sw,.scp::k,L=>ih .sw k L
 |.sw,.back J::_,L=>wX tb F J L
 |.sw,.code c::k,L=>match c with
  |.skip=>ih .sw k L
  |.label _=>ih .sw k L
  |.seq a b=>ih .sw (.code a::.code b::k) L
  |.region i ops false=>match Lv ops.toList with
   |true=>match nm F.n ops.toList with
    |true=>ih (.rg ops.toList ops.toList []) k L
    |false=>jV tb F (.code (.region i ops false)::k) L
   |false=>jV tb F (.code (.region i ops false)::k) L
  |.exit i=>match tB i k with
   |some k'=>ih .sw k' L
   |none=>jV tb F (.code (.exit i)::k) L
  |.ret=>vP tb F L
  |c=>jV tb F (.code c::k) L
def mdN{P:Program}(tb:List (dZ P))(F:Fx):Md->List It->SS->Prop
 |.sw,k,L=>jV tb F k L
 |.rg all r _,k,L=>RlN tb F all r k L
noncomputable def G{P:Program}(tb:List (dZ P))(F:Fx)(f:Nat):Md->List It->SS->Prop:=Nat.rec (motive:=λ_=>Md->List It->SS->Prop) (mdN tb F) (λ_ ih=>Gst tb F ih) f
section
variable {F:Fx} {L:SS} {e:Env} {w:World}
theorem St.fact(h:St F L e w){t:Nat}{v:Value}(hs:aW L.cv t=some (.s (.lf (.v v)))):e t=v/\one v=true:=by
 obtain⟨ν,_,_,_,_,h4⟩:=h;exact h4 t _ hs
theorem NR{f:SF}{d:Nat}{s:Option Sv}(h:f d=s):yz f d s=f:=by
 funext t;show(bif Nat.beq t d then s else f t)=f t;cases hb:Nat.beq t d with
 |false=>rfl
 |true=>rw[ee hb,h];rfl
theorem St.aA(h:St F L e w){t:Nat}{v:Value}(hs:aW L.cv t=some (.s (.lf (.v v)))){v':Value}(hv:v=v'):St F (L.set t (eX v')) e w:=by
 obtain⟨ν,h1,h2,h3,h4,h5⟩:=h;subst hv;refine⟨ν,h1,h2,h3,h4,?_⟩;rw[NF,NR (show aW L.cv t=eX v from hs)];exact h5
theorem St.skip0(h:St F L e w){o:Oper}{l:List Oper}(d:Option Nat):St F (L.nr d (some (.fX []))) (ku e d undef) w:=by
 obtain⟨ν,h1,h2,h3,h4,h5⟩:=h;refine⟨ν,by rw[lR.2];exact h1,by rw[lR.2];exact h2,h3,by rw[lR.1];exact h4,?_⟩;rw[rq,lR.1];exact h5.nr (s:=some (.fX [])) ⟨[],rfl,rfl⟩
theorem sW:L.mJ .z=L:=by
 obtain⟨n,os,ss⟩:=L;rfl
theorem St.skip(h:St F L e w){o:Oper}{l:List Oper}(d:Option Nat):St F ((L.mJ .z).nr d (some (.fX []))) (ku e d undef) w:=by
 rw[sW];exact h.skip0 (o:=o) (l:=l) d
theorem St.step{P:Program}{op:Op}{ty:TypeId}{ef:Ef}{sv:Option Sv}(h:St F L e w)(hl:LT P L op ty ef sv)(d:Option Nat):aF P op ty (ev e) w λv w'=>St F ((L.mJ ef).nr d sv) (ku e d v) w':=by
 obtain⟨ν,h1,h2,h3,h4,h5⟩:=h;refine(hl.ok F.X F.w0 F.H0 ν (aW L.bL) e w (λ_ _ h=>h) (λk hk _=>h1 k hk) h4 h5).mono ?_;rintro v w' ⟨ν',g1,g2,g3,g3',g4⟩;refine⟨ν',λk hk=>?_,?_,λk hk=>?_,?_,?_⟩
 . rw[lR.2]at hk;have hk:L.nx+ef.n<=k:=hk;rw[g1 k (.inr hk)];exact h1 k (by omega)
 . rw[lR.2];show F.m<=L.nx+ef.n;omega
 . rw[g1 k (.inl (by omega))];exact h3 k hk
 . rw[lR.1,pR];exact g2
 . rw[lR.1,rq,pR,um];exact((h5.mono (g1.le λk hk _=>h1 k hk) g3).ap g3').nr g4
end
section
variable {P:Program} {tb:List (dZ P)} {F:Fx}
theorem Xg{all:List Oper}{o:Oper}{r:List Oper}{K:Env->World->Prop}{e:Env}{w:World}(hw:jw all o e=true)(h:aF P o.op o.type (ev e) w λv w'=>Rl P all r K (ku e o.dst v) w'):Rl P all (o::r) K e w:=by
 simp only[Rl,hw];exact h
theorem Fo{all:List Oper}{o:Oper}{r:List Oper}{K:Env->World->Prop}{e:Env}{w:World}(hw:jw all o e=false)(h:Rl P all r K (ku e o.dst undef) w):Rl P all (o::r) K e w:=by
 simp only[Rl,hw];exact h
theorem Gh{all:List Oper}{o:Oper}{j dj:Nat}{b x:Bool}{e:Env}(hg:o.guard=some (j,b))(hj:mR all j=some dj)(he:e dj=.bool x):jw all o e=(x==b):=by
 unfold jw;rw[hg];show gy all e j b=_;unfold gy;rw[hj];simp[he]
theorem Oa{all:List Oper}{o:Oper}{j dj:Nat}{b:Bool}{e:Env}(hg:o.guard=some (j,b))(hj:mR all j=some dj)(he:e dj=undef):jw all o e=false:=by
 unfold jw;rw[hg];show gy all e j b=_;unfold gy;rw[hj];simp[he,undef]
theorem Jr{ν:Nu}{H:Bool->Hp}{v:Value}(h:(Sv.fX []).R ν H v):v=undef:=by
 obtain⟨vs,g1,g2⟩:=h;rw[g1,show vs=[] from g2];rfl
theorem G_ok:∀(f:Nat) (m:Md) (k:List It) (L:SS),G tb F f m k L->mdN tb F m k L:=by
 intro f
 induction f with
 |zero=>intro m k L h;cases m<;>exact h
 |succ f ih=>
  intro m k L h;have h:Gst tb F (G tb F f) m k L:=h;cases m with
  |rg all r kn=>
   cases r with
   |nil=>exact⟨λe w hs=>Rl.nil ((ih .sw k L h).ok e w hs)⟩
   |cons o r=>
    refine⟨λe w hs=>?_⟩;have opK:∀{L:SS} {kn:List (Nat×Bool)},St F L e w->jw all o e=true->pU tb o L (λef sv=>lr L ef o.dst sv λL=>G tb F f (.rg all r kn) k L)->Rl P all (o::r) (cO P F.n k F.Q) e w:=by
     intro L kn hs hw h;obtain⟨ef,sv,hl,hk⟩:=BJ h;exact Xg hw ((hs.step hl o.dst).mono λv w' hv=>(ih _ _ _ (oM hk)).ok _ _ hv)
    simp only[Gst]at h;split at h
    . rename_i hg;exact opK hs (by unfold jw;rw[hg]) h
    . rename_i j b hg;split at h
      . rename_i dj hj;split at h
        . rename_i x hx;have he:=(hs.fact hx).1;split at h
          . rename_i x' _;split at h
            . rename_i hk0;have e0:x=x':=by
               rw[o9]at hk0;simpa using hk0
              subst e0;have hw:=Gh hg hj he;split at h
              . rename_i hk;exact opK hs (by rw[hw,<-o9];exact hk) h
              . rename_i hk;exact Fo (by rw[hw,<-o9];exact hk) ((ih _ _ _ (oM h)).ok _ _ (hs.skip (o:=o) (l:=all) o.dst))
            . exact h.ok e w hs
          . have h:=Pn h;have hs':=hs.aA hx rfl;have hw:=Gh hg hj he;split at h
            . rename_i hk;exact opK hs' (by rw[hw,<-o9];exact hk) (Dc h)
            . rename_i hk;exact Fo (by rw[hw,<-o9];exact hk) ((ih _ _ _ (oM (Dc h))).ok _ _ (hs'.skip (o:=o) (l:=all) o.dst))
        . rename_i hx;have he:e dj=undef:=by
           obtain⟨ν,_,_,_,_,h4⟩:=hs;exact Jr (h4 dj _ hx)
          exact Fo (Oa hg hj he) ((ih _ _ _ (oM h)).ok _ _ (hs.skip (o:=o) (l:=all) o.dst))
        . exact h.ok e w hs
      . exact h.ok e w hs
  |sw=>
   refine⟨λe w hs=>?_⟩;cases k with
   |nil=>exact h.ok e w hs
   |cons x k=>
    cases x with
    |dP i=>exact(ih .sw k L h).ok e w hs
    |scp=>exact(ih .sw k L h).ok e w hs
    |back J=>exact h.ok e w hs
    |code c=>
     simp only[Gst]at h;split at h
     . exact cO.skip ((ih .sw k L h).ok e w hs)
     . exact cO.label ((ih .sw k L h).ok e w hs)
     . exact cO.seq ((ih .sw _ L h).ok e w hs)
     . split at h
       . split at h
         . rename_i i ops _ _ hf _ hd;have:=cO.region (id:=i) (k:=k) (Q:=F.Q) (e:=e) (w:=w) (P:=P) hd ((ih (.rg ops.toList ops.toList []) k L h).ok e w hs);simpa using this
         . exact h.ok e w hs
       . exact h.ok e w hs
     . split at h
       . rename_i k' hk;exact cO.exit hk ((ih .sw k' L h).ok e w hs)
       . exact h.ok e w hs
     . exact cO.ret (h.ok e w hs)
     . exact h.ok e w hs
end
abbrev wQ:Nat:=1000000
section
variable {P:Program} (tb:List (dZ P)) (F:Fx)
abbrev Gr(all r:List Oper)(k:List It)(L:SS):Prop:=G tb F wQ (.rg all r []) k L
abbrev Gs(k:List It)(L:SS):Prop:=G tb F wQ .sw k L
end
section
variable {P:Program} {tb:List (dZ P)} {F:Fx} {all r:List Oper} {k:List It} {L:SS}
theorem Gr.ok(h:Gr tb F all r k L):RlN tb F all r k L:=G_ok wQ _ k L h
theorem Gs.ok(h:Gs tb F k L):jV tb F k L:=G_ok wQ _ k L h
end
open Go Go.RowKit Go.X
variable [fy]
def idsL:Lf->List Nat
 |.own i=>[i]
 |.ptr i _=>[i]
 |.mp i=>[i]
 |.sg i _ _ _=>[i]
 |.ap i _ _ _=>[i]
 |_=>[]
def wh:List Lf->List Nat
 |[]=>[]
 |l::r=>idsL l++wh r
def idsS:S1->List Nat
 |.lf l=>idsL l
 |.agg l=>wh l
def Kw:List S1->List Nat
 |[]=>[]
 |l::r=>idsS l++Kw r
def GA:Option Sv->List Nat
 |some (.s x)=>idsS x
 |some (.fX l)=>Kw l
 |some (.pr _ c _)=>wh c
 |some (.pw i _ _ _ _ _)=>[i]
 |some (.fc _ ps)=>ps
 |some (.pa i _ _ _ _ _ _)=>[i]
 |none=>[]
def needO:Op->Bool
 |.move _=>false
 |.assign _=>false
 |.pick .. =>false
 |.unOp .. =>false
 |.binOp .. =>false
 |.extract .. =>false
 |.fieldAddr .. =>false
 |.build .. =>false
 |.nilCheck _=>false
 |.field .. =>false
 |.box .. =>false
 |_=>true
def Iu(L:SS):List Nat->List Nat
 |[]=>[]
 |t::r=>GA (aW L.cv t)++Iu L r
def idsB(g:OF):List Nat->List Nat
 |[]=>[]
 |i::r=>i::((match g i with
  |some (.box l)=>wh l
  |_=>[])++idsB g r)
def needB:Op->Bool
 |.call .. =>true
 |_=>false
def pq(L:SS)(op:Op)(ts:List Nat):List Nat:=bif needO op then(bif needB op then idsB (aW L.bL) (Iu L ts)else Iu L ts)else[]
def u4{α:Type 1}(g:Nat->Option α):List Nat->List (Nat×Option α)
 |[]=>[]
 |i::r=>(i,g i)::u4 g r
def Aa(L:SS)(op:Op)(ts:List Nat):SS:=⟨L.nx,u4 (aW L.bL) (pq L op ts),u4 (aW L.cv) ts⟩
theorem GN{α:Type 1}{g:Nat->Option α}:∀{l:List Nat} {i:Nat},aW (u4 g l) i=bif cI i l then g i else none
 |[],_=>rfl
 |j::r,i=>by
  show(bif Nat.beq i j then g j else aW (u4 g r) i)=bif (Nat.beq i j||cI i r)then g i else none;cases hb:Nat.beq i j with
  |true=>rw[ee hb];rfl
  |false=>rw[GN (l:=r)];rfl
structure DkN {P:Program}(tb:List (dZ P))(F:Fx)(n0:Nat)(all:List Oper)(k:List It)(acc:List Er)(L:SS):Prop where
 ok:rL n0 L.nx all (acc.reverse.map Er.en)=true/\Gs tb F k L
theorem rh{d:Option Nat}{sv:Option Sv}{sl:List (Nat×Option Sv)}{f:SF}:bS (oc d sv sl) f=H3 (bS sl f) d sv:=by cases d<;>rfl
def GDs{P:Program}(tb:List (dZ P))(F:Fx)(n0:Nat)(all:List Oper)(k:List It)(ih:List (Nat×Bool)->List Oper->List Er->SS->Prop):List (Nat×Bool)->List Oper->List Er->SS->Prop
 |_,[],acc,L=>DkN tb F n0 all k acc L
 |kn,o::r,acc,L=>match o.guard with
  |none=>pU tb o (Aa L o.op (fh all o)) λef sv=>lr L ef o.dst sv λL'=>ih kn r (⟨ji (fh all o),pq L o.op (fh all o),L.nx,L.nx+ef.n,ji o.dst.toList,ef.sl.map (·.1),ef.up.map (·.1)⟩::acc) L'
  |some (j,b)=>match mR all j with
   |some dj=>match aW L.cv dj with
    |some (.s (.lf (.v (.bool x))))=>match GU kn j with
     |some x'=>match tJ x x' with
      |true=>match tJ x' b with
       |true=>pU tb o (Aa L o.op (fh all o)) λef sv=>lr L ef o.dst sv λL'=>ih kn r (⟨ji (fh all o),pq L o.op (fh all o),L.nx,L.nx+ef.n,ji o.dst.toList,ef.sl.map (·.1),ef.up.map (·.1)⟩::acc) L'
       |false=>lr L .z o.dst (some (.fX [])) λL'=>ih kn r (⟨ji (fh all o),[],L.nx,L.nx+0,ji o.dst.toList,[],[]⟩::acc) L'
      |false=>False
     |none=>BC x λx'=>match tJ x' b with
      |true=>zg L dj (eX (.bool x')) λL=>pU tb o (Aa L o.op (fh all o)) λef sv=>lr L ef o.dst sv λL'=>ih ((j,x')::kn) r (⟨ji (fh all o),pq L o.op (fh all o),L.nx,L.nx+ef.n,ji o.dst.toList,ef.sl.map (·.1),ef.up.map (·.1)⟩::acc) L'
      |false=>zg L dj (eX (.bool x')) λL=>lr L .z o.dst (some (.fX [])) λL'=>ih ((j,x')::kn) r (⟨ji (fh all o),[],L.nx,L.nx+0,ji o.dst.toList,[],[]⟩::acc) L'
    |some (.fX [])=>lr L .z o.dst (some (.fX [])) λL'=>ih kn r (⟨ji (fh all o),[],L.nx,L.nx+0,ji o.dst.toList,[],[]⟩::acc) L'
    |_=>False
   |none=>False
noncomputable def GD{P:Program}(tb:List (dZ P))(F:Fx)(n0:Nat)(all:List Oper)(k:List It)(f:Nat):List (Nat×Bool)->List Oper->List Er->SS->Prop:=Nat.rec (motive:=λ_=>List (Nat×Bool)->List Oper->List Er->SS->Prop) (λ_ _ _ _=>False) (λ_ ih=>GDs tb F n0 all k ih) f
section
variable {P:Program} {tb:List (dZ P)} {F:Fx} {all:List Oper} {k:List It}
structure zI (P:Program)(all:List Oper)(gS:SF)(gO:OF)(ev:Ev)(o:Oper):Prop where
 ok:∀(X:Nat->Prop) (w0:World) (H0:Bool->Hp) (ν:Nu) (oF:OF) (e:Env) (w:World),(∀j ob,cI j ev.ro=true->gO j=some ob->oF j=some ob)->(∀k,ev.nx<=k->k<ev.nx+ev.ef.n->ν k=none)->de X w0 H0 ν oF w->dO ν (HF X w0 H0 ν oF w) (λt=>bif cI t ev.rd then gS t else none) e->
  me P all o e w λv w'=>∃ν',jr ev.nx ev.ef.n ν ν'/\de X w0 H0 ν' (bS ev.ef.up oF) w'/\(∀κ,Le (HF X w0 H0 ν oF w κ) (HF X w0 H0 ν' (bS ev.ef.up oF) w' κ))/\∀f:SF,dO ν' (HF X w0 H0 ν' (bS ev.ef.up oF) w') f e->dO ν' (HF X w0 H0 ν' (bS ev.ef.up oF) w') (bS ev.su f) (ku e o.dst v)
theorem Fa{L:SS}{o:Oper}{ef:Ef}{sv:Option Sv}(hl:LT P (Aa L o.op (fh all o)) o.op o.type ef sv)(hw:∀(ν:Nu) (H:Bool->Hp) (e:Env),dO ν H (λt=>bif cI t (fh all o)then aW L.cv t else none) e->jw all o e=true):
 zI P all (aW L.cv) (aW L.bL) ⟨fh all o,pq L o.op (fh all o),L.nx,o.dst,sv,ef⟩ o:=by
 refine⟨λX w0 H0 ν oF e w ho hn hS hs=>?_⟩;unfold me;rw[hw ν _ e hs];refine(hl.ok X w0 H0 ν oF e w (λi ob hi=>?_) hn hS ?_).mono ?_
 . have hi:aW (u4 (aW L.bL) (pq L o.op (fh all o))) i=some ob:=hi;rw[GN]at hi;cases hm:cI i (pq L o.op (fh all o))with
   |false=>rw[hm]at hi;cases hi
   |true=>rw[hm]at hi;exact ho i ob hm hi
 . have e1:aW (Aa L o.op (fh all o)).cv=λt=>bif cI t (fh all o)then aW L.cv t else none:=by funext t;exact GN
   rw[e1];exact hs
 . rintro v w' ⟨ν',g1,g2,g3,g4,g5⟩;exact⟨ν',g1,g2,g3,λf hf=>by show dO _ _ (bS (oc _ _ _) f) _;rw[rh];exact(hf.ap g4).nr g5⟩
theorem Et{L:SS}{o:Oper}(hw:∀(ν:Nu) (H:Bool->Hp) (e:Env),dO ν H (λt=>bif cI t (fh all o)then aW L.cv t else none) e->jw all o e=false):
 zI P all (aW L.cv) (aW L.bL) ⟨fh all o,[],L.nx,o.dst,some (.fX []),.z⟩ o:=by
 refine⟨λX w0 H0 ν oF e w ho hn hS hs=>?_⟩;unfold me;rw[hw ν _ e hs];exact⟨ν,jr.refl,hS,λ_=>Le.refl _,λf hf=>by show dO _ _ (bS (oc _ _ _) f) _;rw[rh];exact hf.nr (s:=some (.fX [])) ⟨[],rfl,rfl⟩⟩
theorem Q7{o:Oper}{j dj:Nat}{b:Bool}(hg:o.guard=some (j,b))(hj:mR all j=some dj):cI dj (fh all o)=true:=by
 refine jH.2 ?_;unfold fh;rw[hg];dsimp only;rw[hj];exact xt _ (by simp)
def th(P:Program)(all:List Oper)(gS:SF)(gO:OF)(evs:List Ev)(ops:List Oper):Prop:=evs.length=ops.length/\∀(i:Nat) (ev:Ev) (o:Oper),evs[i]?=some ev->ops[i]?=some o->zI P all (fS Tr 0 (evs.take i) gS) (fO Tr 0 (evs.take i) gO) ev o
theorem th.snoc{gS:SF}{gO:OF}{evs:List Ev}{ops:List Oper}{ev:Ev}{o:Oper}(h:th P all gS gO evs ops)(h':zI P all (fS Tr 0 evs gS) (fO Tr 0 evs gO) ev o):th P all gS gO (evs++[ev]) (ops++[o]):=by
 refine⟨by simp[h.1],λi ev' o' h1 h2=>?_⟩;rcases cG i evs.length with hi|hi
 . rw[kW hi]at h1;rw[kW (by rw[<-h.1];exact hi)]at h2;rw[qS (DT hi)];exact h.2 i ev' o' h1 h2
 . have hi':i=evs.length:=by
    have:=(eN.1 h1).1;simp at this;omega
   subst hi';rw[pJ (bQ _),xm]at h1;rw[h.1,pJ (bQ _),xm]at h2;simp at h1 h2;subst h1;subst h2;rw[qS (bQ _),uV];exact h'
theorem U3{gS:SF}{evs:List Ev}{ev:Ev}:fS Tr 0 (evs++[ev]) gS=bS ev.su (fS Tr 0 evs gS):=by rw[Gk];rfl
theorem QB{gO:OF}{evs:List Ev}{ev:Ev}:fO Tr 0 (evs++[ev]) gO=bS ev.ef.up (fO Tr 0 evs gO):=by rw[F1];rfl
theorem GD_ok{n0:Nat}{gS:SF}{gO:OF}:∀(f:Nat) (kn:List (Nat×Bool)) (r:List Oper) (acc:List Er) (L:SS) (done:List Oper) (evs:List Ev),all=done++r->evs.map Ev.er=acc.reverse->th P all gS gO evs done->aW L.cv=fS Tr 0 evs gS->aW L.bL=fO Tr 0 evs gO->
    GD tb F n0 all k f kn r acc L->∃evs' L',th P all gS gO evs' all/\rL n0 L'.nx all (evs'.map Ev.en)=true/\Gs tb F k L'/\aW L'.cv=fS Tr 0 evs' gS/\aW L'.bL=fO Tr 0 evs' gO:=by
  intro f
  induction f with
  |zero=>intro kn r acc L done evs _ _ _ _ _ h;exact h.elim
  |succ f ih=>
    intro kn r acc L done evs hall hen hev hsl hob h;have h:GDs tb F n0 all k (GD tb F n0 all k f) kn r acc L:=h;cases r with
    |nil=>
      rw[lH]at hall;obtain⟨h1,h2⟩:=h.ok;exact⟨evs,L,by rw[hall];rw[hall]at hev;exact hev,by rw[<-hen,nF]at h1;exact h1,h2,hsl,hob⟩
    |cons o r=>
      have go:∀(kn:List (Nat×Bool)) (L1:SS) (ev:Ev) (L2:SS),aW L1.cv=aW L.cv->aW L1.bL=aW L.bL->zI P all (aW L1.cv) (aW L1.bL) ev o->aW L2.cv=bS ev.su (aW L1.cv)->aW L2.bL=bS ev.ef.up (aW L1.bL)->GD tb F n0 all k f kn r (ev.er::acc) L2->
          ∃evs' L',th P all gS gO evs' all/\rL n0 L'.nx all (evs'.map Ev.en)=true/\Gs tb F k L'/\aW L'.cv=fS Tr 0 evs' gS/\aW L'.bL=fO Tr 0 evs' gO:=by
        intro kn L1 ev L2 q1 q2 q3 q4 q5 q6;rw[q1,q2,hsl,hob]at q3;refine ih kn r _ L2 (done++[o]) (evs++[ev]) (by rw[hall];simp) (by simp[hen]) (hev.snoc q3) ?_ ?_ q6
        . rw[q4,q1,hsl,U3]
        . rw[q5,q2,hob,QB]
      simp only[GDs]at h;split at h
      . rename_i hg;obtain⟨ef,sv,hl,hk⟩:=BJ h;refine go _ L ⟨fh all o,pq L o.op (fh all o),L.nx,o.dst,sv,ef⟩ _ rfl rfl (Fa hl λν H e hs=>by unfold jw;rw[hg]) ?_ ?_ (oM hk)
        . show _=bS (oc _ _ _) _;rw[rq,um,rh]
        . rw[lR.1,pR]
      . rename_i j b hg;split at h
        . rename_i dj hj;have hmj:=Q7 hg hj;split at h
          . rename_i x hx;have e0:aW (L.set dj (eX (.bool x))).cv=aW L.cv:=by rw[NF,NR (show aW L.cv dj=eX (.bool x) from hx)]
            have hwt:∀(L1:SS),aW L1.cv=aW L.cv->∀(ν:Nu) (H:Bool->Hp) (e:Env),dO ν H (λt=>bif cI t (fh all o)then aW L1.cv t else none) e->jw all o e=(x==b):=by
              intro L1 h1 ν H e hs;have:=hs dj (.s (.lf (.v (.bool x)))) (by show(bif cI dj _ then aW L1.cv dj else none)=_;rw[h1,hmj];exact hx);exact Gh hg hj this.1
            split at h
            . rename_i x' _;split at h
              . rename_i hk0;have e1:x=x':=by
                  rw[o9]at hk0;simpa using hk0
                subst e1;split at h
                . rename_i hk;obtain⟨ef,sv,hl,hkk⟩:=BJ h;refine go _ L ⟨fh all o,pq L o.op (fh all o),L.nx,o.dst,sv,ef⟩ _ rfl rfl (Fa hl λν H e hs=>by rw[hwt _ rfl ν H e hs,<-o9];exact hk) ?_ ?_ (oM hkk)
                  . show _=bS (oc _ _ _) _;rw[rq,um,rh]
                  . rw[lR.1,pR]
                . rename_i hk;refine go _ L ⟨fh all o,[],L.nx,o.dst,some (.fX []),.z⟩ _ rfl rfl (Et λν H e hs=>by rw[hwt _ rfl ν H e hs,<-o9];exact hk) ?_ ?_ (oM h)
                  . show _=bS (oc _ _ _) _;rw[sW,rq,rh];rfl
                  . rw[sW,lR.1];rfl
              . exact h.elim
            . have h:=Pn h;split at h
              . rename_i hk;obtain⟨ef,sv,hl,hkk⟩:=BJ (Dc h);refine go _ (L.set dj (eX (.bool x))) ⟨fh all o,pq (L.set dj (eX (.bool x))) o.op (fh all o),L.nx,o.dst,sv,ef⟩ _ e0 rfl (Fa hl λν H e hs=>by rw[hwt _ e0 ν H e hs,<-o9];exact hk) ?_ ?_ (oM hkk)
                . show _=bS (oc _ _ _) _;rw[rq,um,rh]
                . rw[lR.1,pR]
              . rename_i hk;refine go _ (L.set dj (eX (.bool x))) ⟨fh all o,[],L.nx,o.dst,some (.fX []),.z⟩ _ e0 rfl (Et λν H e hs=>by rw[hwt _ e0 ν H e hs,<-o9];exact hk) ?_ ?_ (oM (Dc h))
                . show _=bS (oc _ _ _) _;rw[sW,rq,rh];rfl
                . rw[sW,lR.1];rfl
          . rename_i hx;refine go _ L ⟨fh all o,[],L.nx,o.dst,some (.fX []),.z⟩ _ rfl rfl (Et λν H e hs=>?_) ?_ ?_ (oM h)
            . exact Oa hg hj (Jr (hs dj (.fX []) (by show(bif cI dj _ then aW L.cv dj else none)=_;rw[hmj];exact hx)))
            . show _=bS (oc _ _ _) _;rw[sW,rq,rh];rfl
            . rw[sW,lR.1];rfl
          . exact h.elim
        . exact h.elim
def JD(F:Fx)(gS:SF)(gO:OF)(evs:List Ev)(nE:Nat)(D:Nat->Bool)(e:Env)(w:World):Prop:= ∃ν,de F.X F.w0 F.H0 ν (fO D 0 evs gO) w/\dO ν (HF F.X F.w0 F.H0 ν (fO D 0 evs gO) w) (fS D 0 evs gS) e/\(∀i ev,evs[i]?=some ev->D i=false->∀k,ev.nx<=k->k<ev.nx+ev.ef.n->ν k=none)/\(∀k,nE<=k->ν k=none)/\∀k,k<F.m->ν k=F.ν0 k
theorem Hm{D:Nat->Bool}{evs:List Ev}{i:Nat}{ev:Ev}{f:OF}(h:evs[i]?=some ev):fO D 0 evs f=fO D (i+1) (evs.drop (i+1)) (bif D i then bS ev.ef.up (fO D 0 (evs.take i) f)else fO D 0 (evs.take i) f):=by
 have hlt:=(eN.1 h).1;have h1:evs=evs.take i++ev::evs.drop (i+1):=by
  conv=>lhs;rw[<-oC i evs]
  rw[gn hlt,(eN.1 h).2]
 conv=>lhs;rw[h1]
 rw[F1];have:(evs.take i).length=i:=by simp;omega
 rw[this,ff];rfl
theorem F0{D:Nat->Bool}{evs:List Ev}{i:Nat}{ev:Ev}{f:SF}(h:evs[i]?=some ev):fS D 0 evs f=fS D (i+1) (evs.drop (i+1)) (bif D i then bS ev.su (fS D 0 (evs.take i) f)else fS D 0 (evs.take i) f):=by
 have hlt:=(eN.1 h).1;have h1:evs=evs.take i++ev::evs.drop (i+1):=by
  conv=>lhs;rw[<-oC i evs]
  rw[gn hlt,(eN.1 h).2]
 conv=>lhs;rw[h1]
 rw[Gk];have:(evs.take i).length=i:=by simp;omega
 rw[this,ff];rfl
theorem Vg{n0:Nat}(hn0:F.m<=n0){gS:SF}{gO:OF}{evs:List Ev}{nE:Nat}(hev:th P all gS gO evs all)(hc:rL n0 nE all (evs.map Ev.en)=true){D:Nat->Bool}{i:Nat}{o:Oper}{e:Env}{w:World}(ho:all[i]?=some o)(hD:D i=false)(hd:∀d∈fG o,D d=true)
 (hcl:∀j oj,all[j]?=some oj->D j=true->∀d∈fG oj,D d=true)(hJ:JD F gS gO evs nE D e w):me P all o e w λv w'=>JD F gS gO evs nE (λj=>D j||Nat.beq j i) (ku e o.dst v) w':=by
 simp only[rL,gz]at hc;obtain⟨⟨⟨⟨_,hb⟩,_⟩,hrg⟩,hce⟩:=hc;have hi:i<all.length:=(eN.1 ho).1;have hie:i<evs.length:=by rw[hev.1];exact hi
 obtain⟨ev,hevi⟩:∃ev,evs[i]?=some ev:=⟨_,cy hie⟩;have ev_ok:=hev.2 i ev o hevi ho;have en_at:∀{j:Nat} {q:Ev},evs[j]?=some q->(evs.map Ev.en)[j]?=some q.en:=λh=>by rw[iA,h];rfl
 have rng:∀{j:Nat} {q:Ev},evs[j]?=some q->n0<=q.nx/\q.nx+q.ef.n<=nE:=by
  intro j q h;have:=uP.1 hrg q.en (oB (en_at h));simp only[gz]at this;have h1:n0<=0+q.nx:=lM this.1;have h2:0+(q.nx+q.ef.n)<=nE:=lM this.2;exact⟨by omega,by omega⟩
 have post:∀{j:Nat} {q:Ev},evs[j]?=some q->i<j->D j=true->o6 ev.en q.en=true:=by
  intro j q h hlt hDj;rcases(AB hce i j _ _ (en_at hevi) (en_at h) hlt).2 with h1|h1
  . rw[ff,ff]at h1;have hj:j<all.length:=by rw[<-hev.1];exact(eN.1 h).1
    have hjo:all[j]?=some all[j]:=cy hj;have:=MC hb hcl j _ i hjo (hcl j _ hjo hDj) h1;rw[hD]at this;cases this
  . exact h1
 have pre:∀{j:Nat} {p:Ev},evs[j]?=some p->j<i->D j=true\/o6 p.en ev.en=true:=by
  intro j p h hlt;rcases(AB hce j i _ _ (en_at h) (en_at hevi) hlt).2 with h1|h1
  . rw[ff,ff]at h1;exact .inl (MC hb hcl i o j ho hd h1)
  . exact .inr h1
 have symN:∀{x:Nat} {a b:List Nat},(∀y∈a,cI y b=false)->x∈b->cI x a=false:=by
  intro x a b h hx;cases hm:cI x a with
  |false=>rfl
  |true=>have:=h x (jH.1 hm);rw[jH.2 hx]at this;cases this
 have dropAt:∀{j:Nat} {q:Ev},(evs.drop (i+1))[j]?=some q->evs[i+1+j]?=some q:=λh=>by rw[sH]at h;exact h
 have takeAt:∀{j:Nat} {p:Ev},(evs.take i)[j]?=some p->j<i/\evs[j]?=some p:=by
  intro j p h;rw[xj]at h;split at h
  . exact⟨by assumption,h⟩
  . cases h
 have rdO:∀x,cI x ev.ro=true->fO D 0 evs gO x=fO Tr 0 (evs.take i) gO x:=by
  intro x hx;have hx:=jH.1 hx;rw[Hm hevi,hD];have h1:fO D (i+1) (evs.drop (i+1)) (fO D 0 (evs.take i) gO) x=fO (λ_=>false) (i+1) (evs.drop (i+1)) (fO D 0 (evs.take i) gO) x:=by
   refine uc λj q hj=>?_;cases hDj:D (i+1+j)with
   |false=>exact .inl rfl
   |true=>exact .inr ((wH (post (dropAt hj) (by omega) hDj)).2.2.1 x hx)
  have h2:∀(l:List Ev) (j:Nat) (f:OF),fO (λ_=>false) j l f=f:=by
   intro l
   induction l with
   |nil=>intro j f;rfl
   |cons a r ih=>intro j f;exact ih (j+1) f
  show fO D (i+1) (evs.drop (i+1)) (fO D 0 (evs.take i) gO) x=_;rw[h1,h2];refine uc λj p hj=>?_;obtain⟨hlt,hp⟩:=takeAt hj;rw[ff];rcases pre hp hlt with h|h
  . exact .inl h
  . exact .inr ((wH h).1 x hx)
 have rdS:∀t,cI t ev.rd=true->fS D 0 evs gS t=fS Tr 0 (evs.take i) gS t:=by
  intro t ht;have ht:=jH.1 ht;rw[F0 hevi,hD];have h1:fS D (i+1) (evs.drop (i+1)) (fS D 0 (evs.take i) gS) t=fS (λ_=>false) (i+1) (evs.drop (i+1)) (fS D 0 (evs.take i) gS) t:=by
   refine tN λj q hj=>?_;cases hDj:D (i+1+j)with
   |false=>exact .inl rfl
   |true=>exact .inr ((wH (post (dropAt hj) (by omega) hDj)).2.2.2.2.1 t ht)
  have h2:∀(l:List Ev) (j:Nat) (f:SF),fS (λ_=>false) j l f=f:=by
   intro l
   induction l with
   |nil=>intro j f;rfl
   |cons a r ih=>intro j f;exact ih (j+1) f
  show fS D (i+1) (evs.drop (i+1)) (fS D 0 (evs.take i) gS) t=_;rw[h1,h2];refine tN λj p hj=>?_;obtain⟨hlt,hp⟩:=takeAt hj;rw[ff];rcases pre hp hlt with h|h
  . exact .inl h
  . exact .inr ((wH h).2.2.2.1 t ht)
 obtain⟨ν,k1,k2,k3,k4,k5⟩:=hJ;have eO:fO (λj=>D j||Nat.beq j i) 0 evs gO=bS ev.ef.up (fO D 0 evs gO):=by
  funext x;rw[Hm (D:=λj=>D j||Nat.beq j i) hevi,Hm (D:=D) hevi,hD,sK];have h1:fO (λj=>D j||Nat.beq j i) 0 (evs.take i) gO=fO D 0 (evs.take i) gO:=by
   funext y;refine uc λj p hj=>.inl ?_;obtain⟨hlt,_⟩:=takeAt hj;rw[ff];have:Nat.beq j i=false:=by
    cases hb2:Nat.beq j i with
    |false=>rfl
    |true=>have:=ee hb2;omega
   simp[this]
  have h2:∀(f:OF),fO (λj=>D j||Nat.beq j i) (i+1) (evs.drop (i+1)) f=fO D (i+1) (evs.drop (i+1)) f:=by
   intro f;funext y;refine uc λj p hj=>.inl ?_;have:Nat.beq (i+1+j) i=false:=by
    cases hb2:Nat.beq (i+1+j) i with
    |false=>rfl
    |true=>have:=ee hb2;omega
   simp[this]
  show fO _ (i+1) (evs.drop (i+1)) (bif false||true then bS ev.ef.up (fO _ 0 (evs.take i) gO)else _) x=bS ev.ef.up (fO D (i+1) (evs.drop (i+1)) (fO D 0 (evs.take i) gO)) x;rw[h2,h1];show fO D (i+1) (evs.drop (i+1)) (bS ev.ef.up (fO D 0 (evs.take i) gO)) x=_;cases hm:cI x ev.ks with
  |false=>
   rw[kJ hm];exact GC (kJ hm)
  |true=>
   have hx:=jH.1 hm;have h3:∀(l:List Ev) (j:Nat) (f:OF),fO (λ_=>false) j l f=f:=by
    intro l
    induction l with
    |nil=>intro j f;rfl
    |cons a r ih=>intro j f;exact ih (j+1) f
   rw[show fO D (i+1) (evs.drop (i+1)) (bS ev.ef.up (fO D 0 (evs.take i) gO)) x=fO (λ_=>false) (i+1) (evs.drop (i+1)) (bS ev.ef.up (fO D 0 (evs.take i) gO)) x from by
    refine uc λj q hj=>?_;cases hDj:D (i+1+j)with
    |false=>exact .inl rfl
    |true=>exact .inr (symN (wH (post (dropAt hj) (by omega) hDj)).2.1 hx),h3]
   exact rM hm
 have eS:fS (λj=>D j||Nat.beq j i) 0 evs gS=bS ev.su (fS D 0 evs gS):=by
  funext x;rw[F0 (D:=λj=>D j||Nat.beq j i) hevi,F0 (D:=D) hevi,hD,sK];have h1:fS (λj=>D j||Nat.beq j i) 0 (evs.take i) gS=fS D 0 (evs.take i) gS:=by
   funext y;refine tN λj p hj=>.inl ?_;obtain⟨hlt,_⟩:=takeAt hj;rw[ff];have:Nat.beq j i=false:=by
    cases hb2:Nat.beq j i with
    |false=>rfl
    |true=>have:=ee hb2;omega
   simp[this]
  have h2:∀(f:SF),fS (λj=>D j||Nat.beq j i) (i+1) (evs.drop (i+1)) f=fS D (i+1) (evs.drop (i+1)) f:=by
   intro f;funext y;refine tN λj p hj=>.inl ?_;have:Nat.beq (i+1+j) i=false:=by
    cases hb2:Nat.beq (i+1+j) i with
    |false=>rfl
    |true=>have:=ee hb2;omega
   simp[this]
  show fS _ (i+1) (evs.drop (i+1)) (bif false||true then bS ev.su (fS _ 0 (evs.take i) gS)else _) x=bS ev.su (fS D (i+1) (evs.drop (i+1)) (fS D 0 (evs.take i) gS)) x;rw[h2,h1];show fS D (i+1) (evs.drop (i+1)) (bS ev.su (fS D 0 (evs.take i) gS)) x=_;cases hm:cI x (ev.su.map (·.1))with
  |false=>
   rw[kJ hm];exact EE (kJ hm)
  |true=>
   have hx:=jH.1 hm;have h3:∀(l:List Ev) (j:Nat) (f:SF),fS (λ_=>false) j l f=f:=by
    intro l
    induction l with
    |nil=>intro j f;rfl
    |cons a r ih=>intro j f;exact ih (j+1) f
   rw[show fS D (i+1) (evs.drop (i+1)) (bS ev.su (fS D 0 (evs.take i) gS)) x=fS (λ_=>false) (i+1) (evs.drop (i+1)) (bS ev.su (fS D 0 (evs.take i) gS)) x from by
    refine tN λj q hj=>?_;cases hDj:D (i+1+j)with
    |false=>exact .inl rfl
    |true=>exact .inr ((wH (post (dropAt hj) (by omega) hDj)).2.2.2.2.2 x hx),h3]
   exact rM hm
 refine(ev_ok.ok F.X F.w0 F.H0 ν (fO D 0 evs gO) e w (λj ob hj hg=>by rw[rdO j hj];exact hg) (k3 i ev hevi hD) k1 ?_).mono ?_
 . intro t sv ht;have ht:(bif cI t ev.rd then fS Tr 0 (evs.take i) gS t else none)=some sv:=ht;cases hm:cI t ev.rd with
   |false=>rw[hm]at ht;cases ht
   |true=>rw[hm]at ht;exact k2 t sv (by rw[rdS t hm];exact ht)
 . rintro v w' ⟨ν',g1,g2,g3,g4⟩;have hle:=g1.le (k3 i ev hevi hD);refine⟨ν',by rw[eO];exact g2,?_,λj q hq hDj k hk1 hk2=>?_,λk hk=>?_,λk hk=>?_⟩
   . rw[eO,eS];exact g4 _ (k2.mono hle g3)
   . simp only[IE]at hDj;have hne:j≠i:=by rintro rfl;rw[sK]at hDj;cases hDj.2
     rw[g1 k,k3 j q hq hDj.1 k hk1 hk2];rcases cG j i with hlt|hge
     . have:=(AB hce j i _ _ (en_at hq) (en_at hevi) hlt).1;have this:0+(q.nx+q.ef.n)<=0+ev.nx:=this;exact .inl (by omega)
     . have:=(AB hce i j _ _ (en_at hevi) (en_at hq) (by omega)).1;have this:0+(ev.nx+ev.ef.n)<=0+q.nx:=this;exact .inr (by omega)
   . have:=(rng hevi).2;rw[g1 k (.inr (by omega))];exact k4 k hk
   . have:=(rng hevi).1;rw[g1 k (.inl (by omega))];exact k5 k hk
theorem NP{evs:List Ev}:∀{j:Nat} {f:OF},fO (λ_=>false) j evs f=f:=by
 induction evs with
 |nil=>intro j f;rfl
 |cons a r ih=>intro j f;exact ih
theorem fS_no{evs:List Ev}:∀{j:Nat} {f:SF},fS (λ_=>false) j evs f=f:=by
 induction evs with
 |nil=>intro j f;rfl
 |cons a r ih=>intro j f;exact ih
theorem dr{id:Nat}{L:SS}(hm:P.follows .mixedOrders=true)(h:GD tb F L.nx all k wQ [] all [] L)(hd:nm F.n all=true:=by rfl):jV tb F (.code (.region id all.toArray true)::k) L:=by
 obtain⟨evs,L',hev,hc,hG,hsl,hob⟩:=GD_ok (all:=all) (gS:=aW L.cv) (gO:=aW L.bL) wQ [] all [] L [] [] (by rfl:all=[]++all) rfl ⟨rfl,λi ev o h=>by simp at h⟩ rfl rfl h;have hc':=hc;simp only[rL,gz]at hc';obtain⟨⟨⟨⟨⟨_,hn⟩,hb⟩,_⟩,hrg⟩,hce⟩:=hc';have hn:=lM hn;refine⟨λe w hs=>?_⟩;obtain⟨ν,g1,g2,g3,g4,g5⟩:=hs;refine cO.drawJ (J:=JD F (aW L.cv) (aW L.bL) evs L'.nx) hm hd hb (λw1 h1 h2 h3 h4=>?_) (λD i o e w ho hD hdd hcl hJ=>Vg g2 hev hc ho hD hdd hcl hJ) (λD e' w' hD hJ=>?_)
 . obtain⟨q1,q2⟩:=g4.same h1 h2 h3 h4;refine⟨ν,by rw[NP];exact q1,by rw[NP,fS_no,q2];exact g5,λi ev hi _ k hk _=>g1 k ?_,λk hk=>g1 k (by omega),g3⟩;have:=uP.1 hrg ev.en (eh.2 ⟨ev,oB hi,rfl⟩);simp only[gz]at this;have:=lM this.1;have:L.nx<=0+ev.nx:=this;omega
 . obtain⟨ν',q1,q2,q3,q4,q5⟩:=hJ;have e1:fO D 0 evs (aW L.bL)=aW L'.bL:=by
    rw[hob];funext x;refine uc λi ev hi=>.inl ?_;rw[ff];exact hD i (by rw[<-hev.1];exact(eN.1 hi).1)
   have e2:fS D 0 evs (aW L.cv)=aW L'.cv:=by
    rw[hsl];funext x;refine tN λi ev hi=>.inl ?_;rw[ff];exact hD i (by rw[<-hev.1];exact(eN.1 hi).1)
   rw[e1]at q1 q2;rw[e2]at q2;exact(Gs.ok hG).ok e' w' ⟨ν',q4,by omega,q5,q1,q2⟩
end
open Go Go.RowKit Go.X
variable [fy]
def jh:List Nat->Nat->Option Nat
 |[],_=>none
 |x::r,i=>bif Nat.beq x i then some 0 else match jh r i with
  |some j=>some (j+1)
  |none=>none
theorem mE:∀{l:List Nat} {i j:Nat},jh l i=some j->l[j]?=some i
 |[],_,_,h=>by cases h
 |x::r,i,j,h=>by
  unfold jh at h;cases hb:Nat.beq x i with
  |true=>rw[hb]at h;cases h;rw[ee hb];rfl
  |false=>
   rw[hb]at h;simp only[cond_false]at h;split at h
   . rename_i j' hj;cases h;simpa using mE hj
   . cases h
theorem Gc:∀{l:List Nat} {i:Nat},jh l i=none->i∉l
 |[],_,_,h=>by cases h
 |x::r,i,h,hm=>by
  unfold jh at h;cases hb:Nat.beq x i with
  |true=>rw[hb]at h;cases h
  |false=>
   rw[hb]at h;simp only[cond_false]at h;rcases eJ.1 hm with h1|h1
   . subst h1;simp at hb
   . split at h
     . cases h
     . rename_i hj;exact Gc hj h1
def wk:Bool->Bool->Bool
 |true,κ=>κ
 |false,_=>false
def cvL(bL:OF)(ren:List Nat):Lf->Lf->Option Lf
 |.own i,.ro _ κ' _=>match jh ren i with
  |some _=>none
  |none=>match bL i with
   |some (.row r κ xs)=>some (.ro r (wk κ κ') xs)
   |_=>none
 |.own i,.ap _ _ κ' _=>match jh ren i with
  |some j=>match bL i with
   |some (.row r κ xs)=>some (.ap j r (wk κ κ') xs)
   |_=>none
  |none=>none
 |.own i,_=>match jh ren i with
  |some j=>some (.own j)
  |none=>none
 |.ap i r κ xs,.ap _ _ κ' _=>match jh ren i with
  |some j=>some (.ap j r (wk κ κ') xs)
  |none=>none
 |.ptr i o,_=>match jh ren i with
  |some j=>some (.ptr j o)
  |none=>none
 |.mp i,_=>match jh ren i with
  |some j=>some (.mp j)
  |none=>none
 |.sg i sz lo hi,_=>match jh ren i with
  |some j=>some (.sg j sz lo hi)
  |none=>none
 |.pd q,_=>some (.pd q)
 |.ro r κ xs,.ro _ κ' _=>some (.ro r (wk κ κ') xs)
 |.cp r κ xs,.ro _ κ' _=>some (.ro r (wk κ κ') xs)
 |.cp r κ xs,.cp _ κ' _=>some (.cp r (wk κ κ') xs)
 |.v (.slice none 0 0),.ro r κ _=>some (.ro r κ [])
 |.v x,_=>some (.v x)
 |_,_=>none
def u9(bL:OF)(ren:List Nat):List Lf->List Lf->Option (List Lf)
 |[],[]=>some []
 |a::r,b::s=>match cvL bL ren a b with
  |some x=>match u9 bL ren r s with
   |some y=>some (x::y)
   |none=>none
  |none=>none
 |_,_=>none
def cvS(bL:OF)(ren:List Nat):S1->S1->Option S1
 |.lf a,.lf b=>match cvL bL ren a b with
  |some x=>some (.lf x)
  |none=>none
 |.agg a,.agg b=>match u9 bL ren a b with
  |some x=>some (.agg x)
  |none=>none
 |_,_=>none
def zD(bL:OF)(ren:List Nat):List S1->List S1->Option (List S1)
 |[],[]=>some []
 |a::r,b::s=>match cvS bL ren a b with
  |some x=>match zD bL ren r s with
   |some y=>some (x::y)
   |none=>none
  |none=>none
 |_,_=>none
def cvV(bL:OF)(ren:List Nat):Sv->Sv->Option Sv
 |.s a,.s b=>match cvS bL ren a b with
  |some x=>some (.s x)
  |none=>none
 |.fX a,.fX b=>match zD bL ren a b with
  |some x=>some (.fX x)
  |none=>none
 |.pr κ a o,.pr κ' b _=>match u9 bL ren a b with
  |some x=>some (.pr (wk κ κ') x o)
  |none=>none
 |_,_=>none
def xf(bL:OF)(ren:List Nat)(k:Nat):Ob->Ob->Option Ob
 |.row r κ xs,.row _ κ' _=>some (.row r (wk κ κ') xs)
 |.row r κ xs,.aN _ κ' _=>some (.aN r (wk κ κ') xs)
 |.aN r κ xs,.aN _ κ' _=>some (.aN r (wk κ κ') xs)
 |.box a,.box b=>match u9 bL ren a b with
  |some x=>some (.box x)
  |none=>none
 |.map dk kf vf m,.map _ _ _ _=>some (.map dk kf vf m)
 |.deep j D xs [],.deep _ _ _ _=>match ren[k]?with
  |some i=>match Nat.beq i j with
   |true=>some (.deep k D xs [])
   |false=>none
  |none=>none
 |_,_=>none
def mn(bL:OF)(ren:List Nat):List (Nat×Option Ob)->Option (List (Nat×Option Ob))
 |[]=>some []
 |(k,some b)::r=>match ren[k]?with
  |some i=>match bL i with
   |some a=>match xf bL ren k a b with
    |some x=>match mn bL ren r with
     |some y=>some ((k,some x)::y)
     |none=>none
    |none=>none
   |none=>none
  |none=>none
 |(k,none)::r=>match mn bL ren r with
  |some y=>some ((k,none)::y)
  |none=>none
def pE(L:SS)(ren:List Nat):List (Nat×Option Sv)->Option (List (Nat×Option Sv))
 |[]=>some []
 |(t,some b)::r=>match aW L.cv t with
  |some a=>match cvV (aW L.bL) ren a b with
   |some x=>match pE L ren r with
    |some y=>some ((t,some x)::y)
    |none=>none
   |none=>none
  |none=>none
 |(_,none)::_=>none
def eM(ν:Nu)(ren:List Nat):Nu:=⟨λk=>(ren[k]?).bind ν.f,ν.tl,ν.tc⟩
def eZ:Nat->List Ob->List (Nat×Option Ob)
 |_,[]=>[]
 |i,x::r=>(i,some x)::eZ (i+1) r
def aX(n:Nat)(dD:List Ob)(cv:List (Nat×Option Sv)):SS:=⟨n,eZ 0 dD,cv⟩
section
variable {ν:Nu} {ren:List Nat} {bL:OF} {H H':Bool->Hp}
theorem lk{j i:Nat}{x:Option Nat×Nat×Nat}(h:ren[j]?=some i)(hx:ν i=some x):eM ν ren j=some x:=by
 show(ren[j]?).bind ν.f=some x;rw[h];exact hx
theorem qU{k:Nat}:eM ν ren k=(ren[k]?).bind ν.f:=rfl
theorem wg{k i:Nat}(h:ren[k]?=some i):dP (eM ν ren) k=dP ν i:=by unfold dP;rw[qU,h];rfl
theorem oA(hw:Le (H' true) (H' false))(hH:∀κ,Le (H κ) (H' κ)):∀κ κ',Le (H κ) (H' (wk κ κ'))
 |true,true=>hH true
 |true,false=>Le.trans (hH true) hw
 |false,_=>hH false
structure Sn (ν:Nu)(H H':Bool->Hp)(bL:OF)(ren:List Nat):Prop where
 le:∀κ,Le (H κ) (H' κ)
 wk:Le (H' true) (H' false)
 ln:∀(i:Nat) (α:Type) (r:cx α) (κ:Bool) (xs:List α) (b:Option Nat) (c n:Nat),bL i=some (.row r κ xs)->ν i=some (b,c,n)->n=xs.length/\(b=none->xs=[])
 fz:∀(i:Nat) (α:Type) (r:cx α) (κ:Bool) (xs:List α) (a:Value),jh ren i=none->bL i=some (.row r κ xs)->(Lf.own i).R ν H a->Rs r (H' κ) a xs
theorem Lx(hs:Sn ν H H' bL ren){x y l:Lf}{a:Value}(h:cvL bL ren x y=some l)(hr:x.R ν H a):l.R (eM ν ren) H' a:=by
 unfold cvL at h;split at h
 . split at h
   . cases h
   . rename_i hp;split at h
     . rename_i ho;cases h;exact Rs.mono (hs.fz _ _ _ _ _ _ hp ho hr) (oA hs.wk (λ_=>Le.refl _) _ _)
     . cases h
 . split at h
   . rename_i j hj;split at h
     . rename_i ho;cases h;obtain⟨b,c,n,h1,h2⟩:=hr;obtain⟨e1,e2⟩:=hs.ln _ _ _ _ _ _ _ _ ho h1;exact⟨b,c,n,lk (mE hj) h1,.inl ⟨e1,e2,h2⟩⟩
     . cases h
   . cases h
 . split at h
   . rename_i j hj;cases h;obtain⟨b,c,n,h1,h2⟩:=hr;exact⟨b,c,n,lk (mE hj) h1,h2⟩
   . cases h
 . split at h
   . rename_i j hj;cases h;obtain⟨b,c,n,h1,h2⟩:=hr;exact⟨b,c,n,lk (mE hj) h1,h2.imp id λg=>⟨g.1,Rs.mono g.2.1 (oA hs.wk hs.le _ _),g.2.2⟩⟩
   . cases h
 . split at h
   . rename_i j hj;cases h;obtain⟨b,c,h1,h2⟩:=hr;exact⟨b,c,lk (mE hj) h1,h2⟩
   . cases h
 . split at h
   . rename_i j hj;cases h;obtain⟨b,c,h1,h2⟩:=hr;exact⟨b,c,lk (mE hj) h1,h2⟩
   . cases h
 . split at h
   . rename_i j hj;cases h;obtain⟨b,c,m,k,cp,h1,h2⟩:=hr;exact⟨b,c,m,k,cp,lk (mE hj) h1,h2⟩
   . cases h
 . cases h;exact Pd.mono _ _ _ _ hs.le hr
 . cases h;exact Rs.mono hr (oA hs.wk hs.le _ _)
 . cases h;exact Rs.mono hr.1 (oA hs.wk hs.le _ _)
 . cases h;exact⟨Rs.mono hr.1 (oA hs.wk hs.le _ _),hr.2⟩
 . cases h;obtain⟨h1,_⟩:=hr;rw[h1];exact Rs.nil
 . cases h;exact hr
 . cases h
theorem Bi(hs:Sn ν H H' bL ren):∀{x y l:List Lf} {a:List Value},u9 bL ren x y=some l->dz ν H x a->dz (eM ν ren) H' l a
 |[],[],l,a,h,hr=>by cases h;exact hr
 |x::r,y::s,l,a,h,hr=>by
  simp only[u9]at h;split at h
  . rename_i u hu;split at h
    . rename_i z hz;cases h;obtain⟨a,az,h1,h2,h3⟩:=hr;exact⟨a,az,h1,Lx hs hu h2,Bi hs hz h3⟩
    . cases h
  . cases h
 |[],_::_,_,_,h,_=>by cases h
 |_::_,[],_,_,h,_=>by cases h
theorem O4(hs:Sn ν H H' bL ren){x y l:S1}{a:Value}(h:cvS bL ren x y=some l)(hr:x.R ν H a):l.R (eM ν ren) H' a:=by
 unfold cvS at h;split at h
 . split at h
   . rename_i u hu;cases h;exact Lx hs hu hr
   . cases h
 . split at h
   . rename_i u hu;cases h;obtain⟨vs,h1,h2⟩:=hr;exact⟨vs,h1,Bi hs hu h2⟩
   . cases h
 . cases h
theorem Eu(hs:Sn ν H H' bL ren):∀{x y l:List S1} {a:List Value},zD bL ren x y=some l->eD ν H x a->eD (eM ν ren) H' l a
 |[],[],l,a,h,hr=>by cases h;exact hr
 |x::r,y::s,l,a,h,hr=>by
  simp only[zD]at h;split at h
  . rename_i u hu;split at h
    . rename_i z hz;cases h;obtain⟨a,az,h1,h2,h3⟩:=hr;exact⟨a,az,h1,O4 hs hu h2,Eu hs hz h3⟩
    . cases h
  . cases h
 |[],_::_,_,_,h,_=>by cases h
 |_::_,[],_,_,h,_=>by cases h
theorem Xt(hs:Sn ν H H' bL ren){x y l:Sv}{a:Value}(h:cvV bL ren x y=some l)(hr:x.R ν H a):l.R (eM ν ren) H' a:=by
 unfold cvV at h;split at h
 . split at h
   . rename_i u hu;cases h;exact O4 hs hu hr
   . cases h
 . split at h
   . rename_i u hu;cases h;obtain⟨vs,h1,h2⟩:=hr;exact⟨vs,h1,Eu hs hu h2⟩
   . cases h
 . split at h
   . rename_i u hu;cases h;obtain⟨b,o,vs,h1,h2,h3⟩:=hr;exact⟨b,o,vs,h1,h2.mono (oA hs.wk hs.le _ _),Bi hs hu h3⟩
   . cases h
 . cases h
theorem WJ(hs:Sn ν H H' bL ren){q:Nat}{x y l:Ob}{c n:Nat}{k:dE}(h:xf bL ren q x y=some l)(hr:x.R ν H c n k):l.R (eM ν ren) H' c n k:=by
 unfold xf at h;split at h
 . cases h;obtain⟨e1,e0,cs,sp,e2,e3,e4⟩:=hr;exact⟨e1,e0,cs,sp,e2,e3.mono (oA hs.wk hs.le _ _),e4⟩
 . cases h;obtain⟨e1,e0,cs,sp,e2,e3,e4⟩:=hr;exact⟨e0,.inl ⟨e1,cs,sp,e2,e3.mono (oA hs.wk hs.le _ _),e4⟩⟩
 . cases h;obtain⟨e0,hr⟩:=hr;exact⟨e0,hr.imp (λ⟨e1,cs,sp,e2,e3,e4⟩=>⟨e1,cs,sp,e2,e3.mono (oA hs.wk hs.le _ _),e4⟩) id⟩
 . split at h
   . rename_i u hu;cases h;obtain⟨vs,e1,e2⟩:=hr;exact⟨vs,e1,Bi hs hu e2⟩
   . cases h
 . cases h;exact hr
 . split at h
   . rename_i i hi;split at h
     . rename_i hb;cases h;have e:=ee hb;subst e;obtain⟨h1,h2,t,c',n',cs,sp,FB,FC,h0,h3,h4,h5,h6,h7,h8,h9⟩:=hr;exact⟨h1,h2,t,c',n',cs,sp,FB,FC,lk hi h0,h3,h4,h5,h6,h7,h8,λh hh=>by cases hh⟩
     . cases h
   . cases h
 . cases h
theorem we{k:Nat}{x y l:Ob}(h:xf bL ren k x y=some l):(l.tid=none↔x.tid=none)/\∀j,l.tid=some j->j=k:=by
 unfold xf at h;split at h
 . cases h;exact⟨oG,λj hj=>by cases hj⟩
 . cases h;exact⟨oG,λj hj=>by cases hj⟩
 . cases h;exact⟨oG,λj hj=>by cases hj⟩
 . split at h
   . cases h;exact⟨oG,λj hj=>by cases hj⟩
   . cases h
 . cases h;exact⟨oG,λj hj=>by cases hj⟩
 . split at h
   . split at h
     . cases h;exact⟨⟨λh=>(by cases h),λh=>(by cases h)⟩,λj hj=>by cases hj;rfl⟩
     . cases h
   . cases h
 . cases h
theorem O6{x l:Ob}{k i:Nat}(hk:ren[k]?=some i)(ht:l.tid=none↔x.tid=none):iL (eM ν ren) k l=iL ν i x:=by
 unfold iL;rw[wg hk];cases hl:l.tid with
 |none=>rw[ht.1 hl]
 |some a=>cases hx:x.tid with
  |none=>rw[ht.2 hx]at hl;cases hl
  |some b=>rfl
theorem CW{x l:Ob}{k i b:Nat}(hk:ren[k]?=some i)(ht:l.tid=none↔x.tid=none):gA (eM ν ren) k l b↔gA ν i x b:=by
 unfold gA;rw[wg hk,O6 hk ht];exact oG
theorem KY{L:SS}(hs:Sn ν H H' (aW L.bL) ren){e:Env}(hS:dO ν H (aW L.cv) e):∀{l l':List (Nat×Option Sv)},pE L ren l=some l'->dO (eM ν ren) H' (aW l') e
 |[],_,h=>by cases h;intro t sv ht;cases ht
 |(t,some b)::r,_,h=>by
  simp only[pE]at h;split at h
  . rename_i a ha;split at h
    . rename_i x hx;split at h
      . rename_i y hy;cases h;intro t' sv ht;have ht:(bif Nat.beq t' t then some x else aW y t')=some sv:=ht;cases hb:Nat.beq t' t with
        |true=>rw[hb]at ht;cases ht;have:=ee hb;subst this;exact Xt hs hx (hS _ _ ha)
        |false=>rw[hb]at ht;exact KY hs hS hy t' sv ht
      . cases h
    . cases h
  . cases h
 |(_,none)::_,_,h=>by simp only[pE]at h;cases h
theorem so:∀{l l':List (Nat×Option Ob)} {k:Nat} {ob:Ob},mn bL ren l=some l'->aW l' k=some ob->∃i a b,ren[k]?=some i/\bL i=some a/\xf bL ren k a b=some ob
 |[],_,k,ob,h,hk=>by cases h;cases hk
 |(j,some b)::r,_,k,ob,h,hk=>by
  simp only[mn]at h;split at h
  . rename_i i hi;split at h
    . rename_i a ha;split at h
      . rename_i x hx;split at h
        . rename_i y hy;cases h;have hk:(bif Nat.beq k j then some x else aW y k)=some ob:=hk;cases hb:Nat.beq k j with
          |true=>rw[hb]at hk;cases hk;have:=ee hb;subst this;exact⟨i,a,b,hi,ha,hx⟩
          |false=>rw[hb]at hk;exact so hy hk
        . cases h
      . cases h
    . cases h
  . cases h
 |(j,none)::r,_,k,ob,h,hk=>by
  simp only[mn]at h;split at h
  . rename_i y hy;cases h;have hk:(bif Nat.beq k j then none else aW y k)=some ob:=hk;cases hb:Nat.beq k j with
    |true=>rw[hb]at hk;cases hk
    |false=>rw[hb]at hk;exact so hy hk
  . cases h
theorem BI:∀{l:List Nat} {p q i:Nat},gE l=true->l[p]?=some i->l[q]?=some i->p=q
 |[],p,_,_,_,h,_=>by simp at h
 |x::r,p,q,i,hn,hp,hq=>by
  simp only[gE,gz,IP]at hn;have hx:∀{q:Nat},r[q]?=some x->False:=λh=>by
   have:=jH.2 (oB h);rw[this]at hn;cases hn.1
  cases p with
  |zero=>cases q with
   |zero=>rfl
   |succ q=>simp at hp hq;subst hp;exact(hx hq).elim
  |succ p=>cases q with
   |zero=>simp at hp hq;subst hq;exact(hx hp).elim
   |succ q=>simp at hp hq;rw[BI hn.2 hp hq]
end
theorem de.qi{X:Nat->Prop}{w0 w:World}{H0:Bool->Hp}{ν:Nu}{oF:OF}(hS:de X w0 H0 ν oF w){ren:List Nat}{out out':List (Nat×Option Ob)}(h1:mn oF ren out=some out')(h2:gE ren=true):
 de X w0 H0 (eM ν ren) (aW out') w/\Sn ν (HF X w0 H0 ν oF w) (HF X w0 H0 (eM ν ren) (aW out') w) oF ren:=by
 have ow:∀b,Ow (eM ν ren) (aW out') b->∃i ob,oF i=some ob/\gA ν i ob b/\i∈ren:=by
  rintro b ⟨k,ob,g1,g2⟩;obtain⟨i,a,b',q1,q2,q3⟩:=so h1 g1;exact⟨i,a,q2,(CW q1 (we q3).1).1 g2,oB q1⟩
 have le:∀κ,Le (HF X w0 H0 ν oF w κ) (HF X w0 H0 (eM ν ren) (aW out') w κ):=by
  intro κ b o h;rcases tM h with⟨g1,g1',g2⟩|⟨g1,g2,g3⟩
  . rw[pf g1 g1'];exact g2
  . refine mq g1 (λhw=>?_) g3;obtain⟨i,ob,q1,q2,_⟩:=ow b hw;exact g2 ⟨i,ob,q1,q2⟩
 have tf:Le (HF X w0 H0 (eM ν ren) (aW out') w true) (HF X w0 H0 (eM ν ren) (aW out') w false):=λb o h=>by
  rcases tM h with⟨g1,g1',g2⟩|⟨g1,g2,g3⟩
  . rw[pf g1 g1'];exact hS.h0 b o g2
  . exact mq g1 g2 g3
 have sn:Sn ν (HF X w0 H0 ν oF w) (HF X w0 H0 (eM ν ren) (aW out') w) oF ren:=by
  refine⟨le,tf,?_,?_⟩
  . intro i α r κ xs b c n ho hb;obtain⟨b',c',n',k,q2,q3,e1,e0,cs,sp,rfl,e3,e4⟩:=hS.dD i _ ho;rw[hb]at q2;cases q2;refine⟨e1,λhn=>?_⟩;subst hn;have hq:Rs r (HF X w0 H0 ν oF w κ) (fJ none 0 0 0) xs:=rV q3 e3 e0;rcases hq with⟨_,h⟩|⟨_,_,_,hv,_⟩
    . exact h
    . cases hv
  rintro i α r κ xs a hp ho ⟨b,c,n,q1,rfl⟩;obtain⟨b',c',n',k,q2,q3,e1,e0,cs,sp,rfl,e3,e4⟩:=hS.dD i _ ho;rw[q1]at q2;cases q2;cases b with
  |none=>exact rV q3 e3 e0
  |some b=>
   have hb:X b\/w0.heap.size<=b:=hS.fresh i _ b ho (.inl (eV q1));have hn:¬Ow (eM ν ren) (aW out') b:=by
    intro hw;obtain⟨j,ob,g1,g2,g3⟩:=ow b hw;have:=hS.iq i j _ ob b ho g1 (.inl (eV q1)) g2;subst this;exact Gc hp g3
   exact xX (pT q3 λq hq=>mq hb hn (vT q3 hq)) (e3.mono (le κ)) e0 rfl e1 e4
 refine⟨⟨hS.os,hS.tape,hS.output,hS.size,hS.keep,hS.h0,hS.oy,hS.qG,λk ob h=>?_,λk ob b h hb=>?_,λk k' o o' b h h' hb hb'=>?_,λk ob h=>?_⟩,sn⟩
 . obtain⟨i,a,b,q1,q2,q3⟩:=so h1 h;obtain⟨b',c,n,kk,g1,g2,g3⟩:=hS.dD i a q2;exact⟨b',c,n,kk,lk q1 g1,g2,WJ sn q3 g3⟩
 . obtain⟨i,a,b',q1,q2,q3⟩:=so h1 h;exact hS.fresh i a b q2 ((CW q1 (we q3).1).1 hb)
 . obtain⟨i,a,b1,q1,q2,q3⟩:=so h1 h;obtain⟨i',a',b1',q1',q2',q3'⟩:=so h1 h';have:=hS.iq i i' a a' b q2 q2' ((CW q1 (we q3).1).1 hb) ((CW q1' (we q3').1).1 hb');subst this;exact BI h2 q1 q1'
 . obtain⟨i,a,b1,q1,q2,q3⟩:=so h1 h;obtain⟨p1,p2,p3⟩:=hS.parts i a q2;have e:=O6 (ν:=ν) q1 (we q3).1;exact⟨λt ht=>p1 t (by rw[<-e];exact ht),λb t hb ht=>p2 b t (by rw[<-wg q1];exact hb) (by rw[<-e];exact ht),(we q3).2⟩
def py:Nat->List Nat->Bool
 |0,_=>true
 |m+1,ren=>(match ren[m]?with
  |some i=>Nat.beq i m
  |none=>false)&&py m ren
theorem Dx:∀{m:Nat} {ren:List Nat} {k:Nat},py m ren=true->k<m->ren[k]?=some k
 |0,_,k,_,h=>by omega
 |m+1,ren,k,h,hk=>by
  simp only[py,gz]at h;by_cases hm:k=m
  . subst hm;cases hr:ren[k]?with
    |none=>rw[hr]at h;cases h.1
    |some i=>rw[hr]at h;rw[ee h.1]
  . exact Dx h.2 (by omega)
theorem St.qi{F:Fx}{L:SS}{e:Env}{w:World}(h:St F L e w)(ren:List Nat){dD:List (Nat×Option Ob)}{cv:List (Nat×Option Sv)}(h1:mn (aW L.bL) ren dD=some dD)(h2:gE ren=true)(h3:pE L ren cv=some cv)(h4:py F.m ren=true):St F ⟨ren.length,dD,cv⟩ e w:=by
 obtain⟨ν,g1,g2,g3,g4,g5⟩:=h;obtain⟨k1,k2⟩:=g4.qi h1 h2;refine⟨eM ν ren,λk hk=>?_,?_,λk hk=>?_,k1,KY k2 g5 h3⟩
 . rw[qU,gm hk];rfl
 . rcases cG ren.length F.m with h|h
   . have:=Dx h4 (k:=ren.length) h;rw[gm (bQ _)]at this;cases this
   . exact h
 . rw[qU,Dx h4 hk];exact g3 k hk
open Go Go.RowKit Go.X
variable [fy]
def zl(X:Nat->Prop)(w0:World)(H0:Bool->Hp)(ν0:Nu)(m:Nat)(out:List (Nat×Option Ob))(rs:List S1)(vs:List Value)(w:World):Prop:= ∃ν,(∀k,k<m->ν k=ν0 k)/\de X w0 H0 ν (aW out) w/\eD ν (HF X w0 H0 ν (aW out) w) rs vs
def Cx(P:Program)(f:FuncId)(az:List S1)(ib:List Ob)(out:List (Nat×Option Ob))(rs:List S1):Prop:= Enters P f/\∀(X:Nat->Prop) (w:World) (H:Bool->Hp) (ν:Nu) (l:List Value),(∀k,ib.length<=k->ν k=none)->de X w H ν (aW (eZ 0 ib)) w->eD ν (HF X w H ν (aW (eZ 0 ib)) w) az l-> Calls P f l.toArray w (λe w'=>∃vs,e=.returned (jW vs)/\zl X w H ν ib.length out rs vs w')
abbrev Cn(P:Program)(f:FuncId)(az:List S1)(ob:List Ob)(rs:List S1):Prop:=Cx P f az [] (eZ 0 ob) rs
def QR(P:Program)(rl:List ResultVar)(X:Nat->Prop)(w0:World)(H0:Bool->Hp)(ν0:Nu)(m:Nat)(out:List (Nat×Option Ob))(rs:List S1):Env->World->Prop:=λe w=>∃vs,tj P e w rl vs/\zl X w0 H0 ν0 m out rs vs w
def qk:Nat->List S1->List (Nat×Option Sv)
 |_,[]=>[]
 |i,a::r=>(i,some (.s a))::qk (i+1) r
theorem Bm{ν:Nu}{H:Bool->Hp}{e:Env}:∀{az:List S1} {vs:List Value} (j:Nat),eD ν H az vs->(∀i v,vs[i]?=some v->e (j+i)=v)->dO ν H (aW (qk j az)) e
 |[],_,j,_,_=>λt sv ht=>by cases ht
 |a::r,_,j,⟨v,vs,h1,h2,h3⟩,he=>λt sv ht=>by
  subst h1;have ht:(bif Nat.beq t j then some (Sv.s a)else aW (qk (j+1) r) t)=some sv:=ht;cases hb:Nat.beq t j with
  |true=>
   rw[hb]at ht;cases ht;have:=ee hb;subst this;have:=he 0 v rfl;rw[pK]at this;rw[this];exact h2
  |false=>
   rw[hb]at ht;exact Bm (j+1) h3 (λi v' hi=>by rw[show j+1+i=j+(i+1) by omega];exact he (i+1) v' (by simpa using hi)) t sv ht
theorem fn{P:Program}(tb:List (dZ P)){f:FuncId}{fn:Func}{c:Code}{rl:List ResultVar}{n:Nat}{az rs:List S1}{ib:List Ob}{out:List (Nat×Option Ob)}(en:Enters P f)(hf:P.funcs[f]?=some fn)
 {m:Nat}(h:∀X w H ν,Gs tb ⟨n,QR P rl X w H ν m out rs,X,w,H,m,ν⟩ [.code c] ⟨m,eZ 0 ib,qk 0 az⟩)(hm:ib.length=m:=by rfl)(hb:fn.body=some c:=by rfl)(hn:fn.ntmps=n:=by rfl)(hr:fn.results=rl.toArray:=by rfl)(hl:Nat.ble az.length n=true:=by rfl):Cx P f az ib out rs:=by
 subst hm;refine⟨en,λX w H ν l hν hS hl'=>?_⟩;refine JW hf hb hn hr (by rw[hl'.length];exact lM hl) ?_;have h0:St ⟨n,QR P rl X w H ν ib.length out rs,X,w,H,ib.length,ν⟩ ⟨ib.length,eZ 0 ib,qk 0 az⟩ (lY l) w:=⟨ν,hν,bQ _,λ_ _=>rfl,hS,Bm 0 hl' (λi v hi=>by rw[ff];simp[lY,hi])⟩;refine((Gs.ok (h X w H ν)).ok _ _ h0).mono ?_;rintro e w' ⟨vs,h1,h2⟩;exact⟨vs,h1,vs,rfl,h2⟩
def tY{P:Program}(tb:List (dZ P))(L:SS):List ResultVar->Option (List S1)
 |[]=>some []
 |.tmp t::r=>match aW L.cv t with
  |some (.s s)=>match tY tb L r with
   |some y=>some (s::y)
   |none=>none
  |_=>none
 |.cell a t::r=>match aW L.cv a with
  |some (.s (.lf (.ptr j 0)))=>match aW L.bL j with
   |some (.box l)=>match cZ tb t with
    |some T=>match js T.d with
     |true=>match Nat.beq l.length T.sz with
      |true=>match tY tb L r with
       |some y=>some (.agg l::y)
       |none=>none
      |false=>none
     |false=>match l[0]?with
      |some x=>match tY tb L r with
       |some y=>some (.lf x::y)
       |none=>none
      |none=>none
    |none=>none
   |_=>none
  |_=>none
section
variable {P:Program} {tb:List (dZ P)} {F:Fx} {all r:List Oper} {k:List It} {L:SS} {n:Nat}
theorem A2{ν:Nu}{e:Env}{w:World}{H:Bool->Hp}(hO:∀i ob,aW L.bL i=some ob->∃b c n k,ν i=some (b,c,n)/\dR w b k/\ob.R ν H c n k)(hS:dO ν H (aW L.cv) e):∀{rl:List ResultVar} {ct:List S1},tY tb L rl=some ct->∃vs,tj P e w rl vs/\eD ν H ct vs
 |[],_,h=>by cases h;exact⟨[],trivial,rfl⟩
 |.tmp t::r,_,h=>by
  simp only[tY]at h;split at h
  . rename_i s hs;split at h
    . rename_i y hy;cases h;obtain⟨vs,h1,h2⟩:=A2 hO hS hy;exact⟨e t::vs,⟨rfl,h1⟩,_,_,rfl,hS _ _ hs,h2⟩
    . cases h
  . cases h
 |.cell a t::r,_,h=>by
  simp only[tY]at h;split at h
  . rename_i j hs;split at h
    . rename_i l ho;split at h
      . rename_i T hT;obtain⟨b,vs,g1,hc,g4⟩:=MF hO (hS _ _ hs) ho;split at h
        . rename_i hg;split at h
          . rename_i hb;split at h
            . rename_i y hy;cases h;obtain⟨us,h1,h2⟩:=A2 hO hS hy;exact⟨.agg vs.toArray::us,⟨⟨_,g1,RR (ie hT) hg (gJ hT) hc (by rw[g4.length];exact ee hb)⟩,h1⟩,_,_,rfl,⟨vs,rfl,g4⟩,h2⟩
            . cases h
          . cases h
        . rename_i hg;split at h
          . rename_i x hx;split at h
            . rename_i y hy;cases h;obtain⟨us,h1,h2⟩:=A2 hO hS hy;obtain⟨v,q1,q2⟩:=g4.get hx;exact⟨v::us,⟨⟨_,g1,Sa (ie hT) hg hc q1⟩,h1⟩,_,_,rfl,q2,h2⟩
            . cases h
          . cases h
      . cases h
    . cases h
  . cases h
theorem rt{rl:List ResultVar}{ct rs:List S1}{out:List (Nat×Option Ob)}{X:Nat->Prop}{w0:World}{H0:Bool->Hp}{m:Nat}{ν0:Nu}(ren:List Nat)(h0:tY tb L rl=some ct:=by rfl)(h1:mn (aW L.bL) ren out=some out:=by rfl)(h2:gE ren=true:=by rfl)(h3:zD (aW L.bL) ren ct rs=some rs:=by rfl)(h4:py m ren=true:=by rfl):
 vP tb ⟨n,QR P rl X w0 H0 ν0 m out rs,X,w0,H0,m,ν0⟩ L:=by
 constructor;rintro e w ⟨ν,g1,g2,g3,g4,g5⟩;obtain⟨vs,q1,q2⟩:=A2 g4.dD g5 h0;obtain⟨k1,k2⟩:=g4.qi h1 h2;refine⟨vs,q1,eM ν ren,λk hk=>?_,k1,Eu k2 h3 q2⟩;rw[qU,Dx h4 hk];exact g3 k hk
theorem bj{π σ:Type}{inj:π->σ}{Lj:π->SS}{s:σ}(x:π)(ren:List Nat){dD:List (Nat×Option Ob)}{cv:List (Nat×Option Sv)}(hx:inj x=s:=by rfl)(hI:Lj x=⟨ren.length,dD,cv⟩:=by rfl)(h1:mn (aW L.bL) ren dD=some dD:=by rfl)(h2:gE ren=true:=by rfl)(h3:pE L ren cv=some cv:=by rfl)(h4:py F.m ren=true:=by rfl):
 wX tb F (λe w=>∃p,inj p=s/\St F (Lj p) e w) L:=⟨λ_ _ h=>⟨x,hx,by rw[hI];exact h.qi ren h1 h2 h3 h4⟩⟩
theorem bl{σ ρ:Type}{I:σ->SS}{x:σ}(ren:List Nat){dD:List (Nat×Option Ob)}{cv:List (Nat×Option Sv)}(hI:I x=⟨ren.length,dD,cv⟩:=by rfl)(h1:mn (aW L.bL) ren dD=some dD:=by rfl)(h2:gE ren=true:=by rfl)(h3:pE L ren cv=some cv:=by rfl)(h4:py F.m ren=true:=by rfl):
 wX tb F (λe w=>∃s',(aH.next x:aH σ ρ)=.next s'/\St F (I s') e w) L:=⟨λ_ _ h=>⟨x,rfl,by rw[hI];exact h.qi ren h1 h2 h3 h4⟩⟩
theorem sn{kk:List It}(L':SS)(ren:List Nat)(h:jV tb F kk L'){dD:List (Nat×Option Ob)}{cv:List (Nat×Option Sv)}(hI:L'=⟨ren.length,dD,cv⟩:=by rfl)(h1:mn (aW L.bL) ren dD=some dD:=by rfl)(h2:gE ren=true:=by rfl)(h3:pE L ren cv=some cv:=by rfl)(h4:py F.m ren=true:=by rfl):jV tb F kk L:=⟨λe w hs=>h.ok e w (by rw[hI];exact hs.qi ren h1 h2 h3 h4)⟩
theorem jn{π σ β:Type}{m:Option σ}{g:σ->Option β}{res:β}{c:Code}(inj:π->σ)(Lj:π->SS)(h:m.bind g=some res)
 (h1:∀s,m=some s->g s=some res->Gs tb F (.code c::.back (λe w=>∃p,inj p=s/\St F (Lj p) e w)::k) L)(h2:∀p,g (inj p)=some res->Gs tb F k (Lj p)):jV tb F (.code c::k) L:=by
 obtain⟨s,q1,q2⟩:=bind_some h;refine⟨λe w hs=>cO.join _ ((Gs.ok (h1 s q1 q2)).ok e w hs) ?_⟩;rintro e w ⟨p,rfl,hp⟩;exact(Gs.ok (h2 p q2)).ok e w hp
theorem bk{c:Code}{id:Nat}(h:Gs tb F (.code c::.dP id::k) L):jV tb F (.code (.block id c)::k) L:=⟨λe w hs=>cO.block ((Gs.ok h).ok e w hs)⟩
theorem lp{σ ρ:Type}{body:σ->Option (aH σ ρ)}{N:Nat}{s0:σ}{r0:ρ}{c:Code}(I:σ->SS)(hl:bO body N s0=some r0)(ren:List Nat)
 (rd:∀s o,body s=some o->(∀r',o=.done r'->r'=r0)->Gs tb F (.code c::.back (λe w=>∃s',o=.next s'/\St F (I s') e w)::k) (I s))
 {dD:List (Nat×Option Ob)}{cv:List (Nat×Option Sv)}(hI:I s0=⟨ren.length,dD,cv⟩:=by rfl)(h1:mn (aW L.bL) ren dD=some dD:=by rfl)(h2:gE ren=true:=by rfl)(h3:pE L ren cv=some cv:=by rfl)(h4:py F.m ren=true:=by rfl):jV tb F (.code (.loop c)::k) L:=⟨λe w hs=>
 cO.bO hl (λs e w=>St F (I s) e w) (by show St _ (I s0) _ _;rw[hI];exact hs.qi ren h1 h2 h3 h4) λs o e w hs hb hd=>(Gs.ok (rd s o hb hd)).ok e w hs⟩
theorem dbt{b:Bool}:b=decide (b=true):=by cases b<;>rfl
theorem dnt{p:Prop}[Decidable p]:(!decide p)=decide (¬p):=by by_cases h:p<;>simp[h]
def SS.kn(L:SS)(c:Operand)(b:Bool):SS:=match c with
 |.tmp t=>L.set t (eX (.bool b))
 |_=>L
theorem St.kn{c:Operand}{b b':Bool}{e:Env}{w:World}(h:St F L e w)(hc:lv (cr L c)=some (.bool b))(hb:b=b'):St F (L.kn c b') e w:=by
 cases c with
 |tmp t=>
  have:aW L.cv t=some (.s (.lf (.v (.bool b)))):=by
   simp only[cr]at hc;unfold lv at hc;split at hc
   . rename_i hx;cases hc;exact hx
   . cases hc
  exact h.aA this (by rw[hb])
 |_=>exact h
theorem St.lv{c:Operand}{v:Value}{e:Env}{w:World}(h:St F L e w)(hc:lv (cr L c)=some v):ev e c=v:=by
 obtain⟨ν,_,_,_,_,h4⟩:=h;exact(fe h4 hc).1
theorem cd{β:Type}{p:Prop}[Decidable p]{A B:Option β}{res:β}{c:Operand}{x y:Code}{b:Bool}(h:(if p then A else B)=some res)(ht:p->A=some res->Gs tb F (.code x::k) (L.kn c true))(hf:¬p->B=some res->Gs tb F (.code y::k) (L.kn c false))
 (hc:lv (cr L c)=some (.bool b):=by rfl)(hb:b=decide p:=by first|rfl|exact dbt|exact dnt|simp):jV tb F (.code (.cond c x y)::k) L:=by
 subst hb;refine⟨λe w hs=>?_⟩;refine cO.V3 p (hs.lv hc) (λhp=>?_) (λhp=>?_)
 . exact(Gs.ok (ht hp (Jy hp h))).ok e w (hs.kn hc (by simp[hp]))
 . exact(Gs.ok (hf hp (Nk hp h))).ok e w (hs.kn hc (by simp[hp]))
theorem cf{c:Operand}{x y:Code}{b:Bool}(hb:b=false)(ht:Gs tb F (.code y::k) (L.kn c false))(hc:lv (cr L c)=some (.bool b):=by rfl):jV tb F (.code (.cond c x y)::k) L:=
 ⟨λe w hs=>cO.Nf (hs.lv hc) hb ((Gs.ok ht).ok e w (hs.kn hc hb))⟩
theorem rg{i:Nat}{ops:List Oper}(h:Gr tb F ops ops k L)(hd:nm F.n ops=true:=by rfl):jV tb F (.code (.region i ops.toArray false)::k) L:=⟨λe w hs=>cO.region hd ((Gr.ok h).ok e w hs)⟩
theorem dk{n0:Nat}{acc:List Er}(h:Gs tb F k L)(hc:Gd n0 L.nx all acc.reverse=true:=by kernel_rfl):DkN tb F n0 all k acc L:=⟨QV▸hc,h⟩
theorem gd{β:Type}{p:Prop}[Decidable p]{A B:Option β}{res:β}{b:Bool}{K:Bool->Prop}(h:(if p then A else B)=some res)(ht:p->A=some res->K true)(hf:¬p->B=some res->K false)(hb:b=decide p:=by first|rfl|exact dbt|exact dnt|simp):BC b K:=by
 subst hb;by_cases hp:p
 . rw[show decide p=true by simp[hp]];exact ht hp (Jy hp h)
 . rw[show decide p=false by simp[hp]];exact hf hp (Nk hp h)
end
open Go Go.RowKit Go.X
variable [fy]
def oT(L:SS):List Operand->Option (List S1)
 |[]=>some []
 |x::r=>match cr L x with
  |some (.s s)=>match oT L r with
   |some y=>some (s::y)
   |none=>none
  |_=>none
theorem Cg{ν:Nu}{H:Bool->Hp}{L:SS}{e:Env}(hs:dO ν H (aW L.cv) e):∀{xs:List Operand} {ss:List S1},oT L xs=some ss->eD ν H ss (xs.map (ev e))
 |[],_,h=>by cases h;rfl
 |x::r,_,h=>by
  simp only[oT]at h;split at h
  . rename_i s hx;split at h
    . rename_i y hy;cases h;exact⟨_,_,rfl,dH hs hx,Cg hs hy⟩
    . cases h
  . cases h
def sy:Option Bool->Bool->Bool->Bool
 |some true,false,_=>false
 |_,false,true=>false
 |_,_,_=>true
def pH(md:Option Bool)(bL:OF)(is:List Nat):Lf->Lf->Option Lf
 |.v (.slice none 0 0),.ro r κ _=>some (.ro r κ [])
 |.v x,_=>some (.v x)
 |.ro r κ xs,.ro _ κ' _=>match sy md κ κ' with
  |true=>some (.ro r κ' xs)
  |false=>none
 |.cp r κ xs,.ro _ κ' _=>match sy md κ κ' with
  |true=>some (.ro r κ' xs)
  |false=>none
 |.own i,.ro _ false _=>match md with
  |none=>match jh is i with
   |none=>match bL i with
    |some (.row r _ xs)=>some (.ro r false xs)
    |_=>none
   |some _=>none
  |some _=>none
 |.own i,.own _=>match jh is i with
  |some j=>some (.own j)
  |none=>none
 |.own i,.ap _ r κ' xs=>match jh is i with
  |some j=>match bL i with
   |some (.row r κ xs)=>match sy md κ κ' with
    |true=>some (.ap j r κ' xs)
    |false=>none
   |_=>none
  |none=>none
 |.ap i r κ xs,.ap _ _ κ' _=>match jh is i with
  |some j=>match sy md κ κ' with
   |true=>some (.ap j r κ' xs)
   |false=>none
  |none=>none
 |.ptr i o,_=>match jh is i with
  |some j=>some (.ptr j o)
  |none=>none
 |.mp i,_=>match jh is i with
  |some j=>some (.mp j)
  |none=>none
 |.sg i sz lo hi,_=>match jh is i with
  |some j=>some (.sg j sz lo hi)
  |none=>none
 |.pd q,_=>match md with
  |some true=>none
  |_=>some (.pd q)
 |_,_=>none
def nN(md:Option Bool)(bL:OF)(is:List Nat):List Lf->List Lf->Option (List Lf)
 |[],[]=>some []
 |a::r,b::s=>match pH md bL is a b with
  |some x=>match nN md bL is r s with
   |some y=>some (x::y)
   |none=>none
  |none=>none
 |_,_=>none
def lh(md:Option Bool)(bL:OF)(is:List Nat):List S1->List S1->Option (List S1)
 |[],[]=>some []
 |.lf a::r,.lf b::s=>match pH md bL is a b with
  |some x=>match lh md bL is r s with
   |some y=>some (.lf x::y)
   |none=>none
  |none=>none
 |.agg a::r,.agg b::s=>match nN md bL is a b with
  |some x=>match lh md bL is r s with
   |some y=>some (.agg x::y)
   |none=>none
  |none=>none
 |_,_=>none
def ua(md:Option Bool)(bL:OF)(is:List Nat):Ob->Ob->Option Ob
 |.row r κ xs,.row _ κ' _=>match sy md κ κ' with
  |true=>some (.row r κ' xs)
  |false=>none
 |.row r κ xs,.aN _ κ' _=>match sy md κ κ' with
  |true=>some (.aN r κ' xs)
  |false=>none
 |.aN r κ xs,.aN _ κ' _=>match sy md κ κ' with
  |true=>some (.aN r κ' xs)
  |false=>none
 |.box a,.box b=>match nN md bL is a b with
  |some x=>some (.box x)
  |none=>none
 |.map dk kf vf m,.map _ _ _ _=>some (.map dk kf vf m)
 |_,_=>none
def jJ(md:Option Bool)(bL:OF)(is:List Nat):List Nat->List Ob->Option (List Ob)
 |[],[]=>some []
 |i::r,b::s=>match bL i with
  |some a=>match ua md bL is a b with
   |some x=>match jJ md bL is r s with
    |some y=>some (x::y)
    |none=>none
   |none=>none
  |none=>none
 |_,_=>none
def Xc(ν:Nu)(is:List Nat)(b:Nat):Prop:=∃i∈is,dP ν i=some b
open Classical in
noncomputable def Hc(md:Option Bool)(H:Bool->Hp)(X:Nat->Prop)(w:World):Bool->Hp
 |true=>H true
 |false=>match md with
  |some κ=>H κ
  |none=>λb=>if X b then none else w.heap[b]?
theorem EF{H:Bool->Hp}{X:Nat->Prop}{w:World}{b:Nat}{o:Obj}:Hc none H X w false b=some o↔¬X b/\w.heap[b]?=some o:=by
 unfold Hc;dsimp only;split
 . rename_i h;exact⟨λh'=>by(cases h'),λh'=>bX h h'.1⟩
 . rename_i h;exact⟨λh'=>⟨h,h'⟩,λh'=>h'.2⟩
section
variable {md:Option Bool} {X:Nat->Prop} {w0 w:World} {H0:Bool->Hp} {ν:Nu} {oF:OF} {is:List Nat}
theorem Ck(hI:∀i∈is,∃ob,oF i=some ob){b:Nat}(h:Xc ν is b):Ow ν oF b:=by
 obtain⟨i,h1,h2⟩:=h;obtain⟨ob,h3⟩:=hI i h1;exact⟨i,ob,h3,.inl h2⟩
theorem F5(hS:de X w0 H0 ν oF w)(hI:∀i∈is,∃ob,oF i=some ob){κ:Bool}:Le (HF X w0 H0 ν oF w κ) (Hc none (HF X w0 H0 ν oF w) (Xc ν is) w false):=λb o h=>by
 obtain⟨h1,h2⟩:=hS.rd h;exact EF.2 ⟨λhx=>h2 (Ck hI hx),h1⟩
theorem qh(hS:de X w0 H0 ν oF w)(hI:∀i∈is,∃ob,oF i=some ob){κ κ':Bool}(h:sy md κ κ'=true):Le (HF X w0 H0 ν oF w κ) (Hc md (HF X w0 H0 ν oF w) (Xc ν is) w κ'):=by
 cases κ' with
 |true=>cases κ with
  |true=>exact Le.refl _
  |false=>cases md with
   |none=>cases h
   |some κ=>cases κ<;>cases h
 |false=>cases md with
  |none=>exact F5 hS hI
  |some κ2=>cases κ2 with
   |true=>cases κ with
    |true=>exact Le.refl _
    |false=>cases h
   |false=>exact hS.lef κ
theorem Jj(hS:de X w0 H0 ν oF w)(hI:∀i∈is,∃ob,oF i=some ob):Le (Hc md (HF X w0 H0 ν oF w) (Xc ν is) w true) (Hc md (HF X w0 H0 ν oF w) (Xc ν is) w false):=by
 cases md with
 |none=>exact F5 hS hI
 |some κ=>cases κ with
  |true=>exact Le.refl _
  |false=>exact hS.tf
theorem Hc_w(hS:de X w0 H0 ν oF w)(hI:∀i∈is,∃ob,oF i=some ob){b:Nat}{o:Obj}(h:Hc md (HF X w0 H0 ν oF w) (Xc ν is) w false b=some o):b<w.heap.size/\w.heap[b]?=some o/\¬Xc ν is b:=by
 cases md with
 |none=>
  obtain⟨h1,h2⟩:=EF.1 h;exact⟨ld h2,h2,h1⟩
 |some κ=>
  obtain⟨h1,h2⟩:=hS.rd (show HF X w0 H0 ν oF w κ b=some o from h);exact⟨ld h1,h1,λhx=>h2 (Ck hI hx)⟩
variable {νc:Nu} {cF:OF}
theorem ru(hS:de X w0 H0 ν oF w)(hI:∀i∈is,∃ob,oF i=some ob)(κ:Bool):Le (Hc md (HF X w0 H0 ν oF w) (Xc ν is) w κ) (HF (Xc ν is) w (Hc md (HF X w0 H0 ν oF w) (Xc ν is) w) νc cF w κ):=λb o h=>by
 have hf:Hc md (HF X w0 H0 ν oF w) (Xc ν is) w false b=some o:=by
  cases κ with
  |true=>exact Jj hS hI b o h
  |false=>exact h
 obtain⟨h1,h2,h3⟩:=Hc_w hS hI hf;rw[pf h1 h3];exact h
theorem ME(hS:de X w0 H0 ν oF w)(hI:∀i∈is,∃ob,oF i=some ob)(he:∀κ,Le (Hc md (HF X w0 H0 ν oF w) (Xc ν is) w κ) ((λκ=>HF (Xc ν is) w (Hc md (HF X w0 H0 ν oF w) (Xc ν is) w) νc cF w κ) κ)){a b l:Lf}{v:Value}(h:pH md oF is a b=some l)(hr:a.R ν (HF X w0 H0 ν oF w) v):
 l.R (eM ν is) (HF (Xc ν is) w (Hc md (HF X w0 H0 ν oF w) (Xc ν is) w) νc cF w) v:=by
 unfold pH at h;split at h
 . cases h;obtain⟨h1,_⟩:=hr;rw[h1];exact Rs.nil
 . cases h;exact hr
 . split at h
   . rename_i hk;cases h;exact Rs.mono hr (Le.trans (qh hS hI hk) (he _))
   . cases h
 . split at h
   . rename_i hk;cases h;exact Rs.mono hr.1 (Le.trans (qh hS hI hk) (he _))
   . cases h
 . split at h
   . split at h
     . rename_i hp;split at h
       . rename_i α r κ xs ho;cases h;obtain⟨b,c,n,q1,rfl⟩:=hr;obtain⟨b',c',n',kk,q2,q3,e1,e0,cs,sp,rfl,e3,e4⟩:=hS.dD _ _ ho;rw[q1]at q2;cases q2;cases b with
         |none=>exact rV q3 e3 e0
         |some b=>
          have hx:¬Xc ν is b:=by
           rintro⟨j,g1,g2⟩;obtain⟨oj,g3⟩:=hI j g1;have:=hS.iq _ j _ oj b ho g3 (.inl (eV q1)) (.inl g2);subst this;exact Gc hp g1
          exact xX (pT q3 λq hq=>he false b q (EF.2 ⟨hx,hq⟩)) (e3.mono (Le.trans (F5 hS hI) (he false))) e0 rfl e1 e4
       . cases h
     . cases h
   . cases h
 . split at h
   . rename_i j hj;cases h;obtain⟨b,c,n,h1,h2⟩:=hr;exact⟨b,c,n,lk (mE hj) h1,h2⟩
   . cases h
 . split at h
   . rename_i j hj;split at h
     . rename_i α r κ xs ho;split at h
       . cases h;obtain⟨b,c,n,q1,rfl⟩:=hr;obtain⟨b',c',n',kk,q2,q3,e1,e0,cs,sp,rfl,e3,e4⟩:=hS.dD _ _ ho;rw[q1]at q2;cases q2;refine⟨b,c,n,lk (mE hj) q1,.inl ⟨e1,λhb=>?_,rfl⟩⟩;subst hb;have hq:Rs r (HF X w0 H0 ν oF w κ) (fJ none 0 0 0) xs:=rV q3 e3 e0;rcases hq with⟨_,h⟩|⟨_,_,_,hv,_⟩
         . exact h
         . cases hv
       . cases h
     . cases h
   . cases h
 . split at h
   . rename_i j hj;split at h
     . rename_i hk;cases h;obtain⟨b,c,n,h1,h2⟩:=hr;exact⟨b,c,n,lk (mE hj) h1,h2.imp id λg=>⟨g.1,Rs.mono g.2.1 (Le.trans (qh hS hI hk) (he _)),g.2.2⟩⟩
     . cases h
   . cases h
 . split at h
   . rename_i j hj;cases h;obtain⟨b,c,h1,h2⟩:=hr;exact⟨b,c,lk (mE hj) h1,h2⟩
   . cases h
 . split at h
   . rename_i j hj;cases h;obtain⟨b,c,h1,h2⟩:=hr;exact⟨b,c,lk (mE hj) h1,h2⟩
   . cases h
 . split at h
   . rename_i j hj;cases h;obtain⟨b,c,m,k,cp,h1,h2⟩:=hr;exact⟨b,c,m,k,cp,lk (mE hj) h1,h2⟩
   . cases h
 . split at h
   . cases h
   . rename_i hmd;cases h;refine Pd.mono _ _ _ _ (λκ=>?_) hr;refine Le.trans (qh (md:=md) hS hI (κ:=κ) (κ':=κ) ?_) (he κ);cases md with
     |none=>cases κ<;>rfl
     |some κ2=>cases κ2 with
      |true=>exact bX rfl hmd
      |false=>cases κ<;>rfl
 . cases h
theorem GV(hS:de X w0 H0 ν oF w)(hI:∀i∈is,∃ob,oF i=some ob)(he:∀κ,Le (Hc md (HF X w0 H0 ν oF w) (Xc ν is) w κ) ((λκ=>HF (Xc ν is) w (Hc md (HF X w0 H0 ν oF w) (Xc ν is) w) νc cF w κ) κ)):∀{a b l:List Lf} {v:List Value},nN md oF is a b=some l->dz ν (HF X w0 H0 ν oF w) a v->
 dz (eM ν is) (HF (Xc ν is) w (Hc md (HF X w0 H0 ν oF w) (Xc ν is) w) νc cF w) l v
 |[],[],l,a,h,hr=>by cases h;exact hr
 |x::r,y::s,l,a,h,hr=>by
  simp only[nN]at h;split at h
  . rename_i u hu;split at h
    . rename_i z hz;cases h;obtain⟨a,az,h1,h2,h3⟩:=hr;exact⟨a,az,h1,ME hS hI he hu h2,GV hS hI he hz h3⟩
    . cases h
  . cases h
 |[],_::_,_,_,h,_=>by cases h
 |_::_,[],_,_,h,_=>by cases h
theorem zE(hS:de X w0 H0 ν oF w)(hI:∀i∈is,∃ob,oF i=some ob)(he:∀κ,Le (Hc md (HF X w0 H0 ν oF w) (Xc ν is) w κ) ((λκ=>HF (Xc ν is) w (Hc md (HF X w0 H0 ν oF w) (Xc ν is) w) νc cF w κ) κ)):∀{a b l:List S1} {v:List Value},lh md oF is a b=some l->eD ν (HF X w0 H0 ν oF w) a v->
 eD (eM ν is) (HF (Xc ν is) w (Hc md (HF X w0 H0 ν oF w) (Xc ν is) w) νc cF w) l v
 |[],[],l,a,h,hr=>by cases h;exact hr
 |.lf x::r,.lf y::s,l,a,h,hr=>by
  simp only[lh]at h;split at h
  . rename_i u hu;split at h
    . rename_i z hz;cases h;obtain⟨a,az,h1,h2,h3⟩:=hr;exact⟨a,az,h1,ME (a:=x) hS hI he hu h2,zE hS hI he hz h3⟩
    . cases h
  . cases h
 |.agg x::r,.agg y::s,l,a,h,hr=>by
  simp only[lh]at h;split at h
  . rename_i u hu;split at h
    . rename_i z hz;cases h;obtain⟨a,az,h1,⟨vs,h2,h4⟩,h3⟩:=hr;exact⟨a,az,h1,⟨vs,h2,GV hS hI he hu h4⟩,zE hS hI he hz h3⟩
    . cases h
  . cases h
 |.lf _::_,.agg _::_,_,_,h,_=>by cases h
 |.agg _::_,.lf _::_,_,_,h,_=>by cases h
 |[],_::_,_,_,h,_=>by cases h
 |.lf _::_,[],_,_,h,_=>by cases h
 |.agg _::_,[],_,_,h,_=>by cases h
theorem vh:∀{l:List Nat} {ib ib':List Ob} {j k:Nat} {ob:Ob},jJ md oF is l ib=some ib'->aW (eZ j ib') k=some ob->∃p i a b,k=j+p/\l[p]?=some i/\oF i=some a/\ua md oF is a b=some ob
 |[],[],_,j,k,ob,h,hk=>by cases h;cases hk
 |i::r,b::s,_,j,k,ob,h,hk=>by
  simp only[jJ]at h;split at h
  . rename_i a ha;split at h
    . rename_i x hx;split at h
      . rename_i y hy;cases h;have hk:(bif Nat.beq k j then some x else aW (eZ (j+1) y) k)=some ob:=hk;cases hb:Nat.beq k j with
        |true=>rw[hb]at hk;cases hk;exact⟨0,i,a,b,by have:=ee hb;omega,rfl,ha,hx⟩
        |false=>
         rw[hb]at hk;obtain⟨p,i',a',b',g1,g2,g3,g4⟩:=vh hy hk;exact⟨p+1,i',a',b',by omega,by simpa using g2,g3,g4⟩
      . cases h
    . cases h
  . cases h
 |[],_::_,_,_,_,_,h,_=>by cases h
 |_::_,[],_,_,_,_,h,_=>by cases h
theorem Lz:∀{l:List Nat} {ib ib':List Ob},jJ md oF is l ib=some ib'->ib'.length=l.length
 |[],[],_,h=>by cases h;rfl
 |i::r,b::s,_,h=>by
  simp only[jJ]at h;split at h
  . split at h
    . split at h
      . rename_i y hy;cases h;simp[Lz hy]
      . cases h
    . cases h
  . cases h
 |[],_::_,_,h=>by cases h
 |_::_,[],_,h=>by cases h
theorem ui:∀{l:List Nat} {ib ib':List Ob},jJ md oF is l ib=some ib'->∀i∈l,∃ob,oF i=some ob
 |[],[],_,_,i,hi=>by cases hi
 |j::r,b::s,_,h,i,hi=>by
  simp only[jJ]at h;split at h
  . rename_i a ha;split at h
    . split at h
      . rename_i y hy;rcases eJ.1 hi with e|e
        . subst e;exact⟨a,ha⟩
        . exact ui hy i e
      . cases h
    . cases h
  . cases h
 |[],_::_,_,h,_,_=>by cases h
 |_::_,[],_,h,_,_=>by cases h
theorem Bn{md:Option Bool}{oF:OF}{is:List Nat}{a b x:Ob}(h:ua md oF is a b=some x):x.tid=none:=by
 unfold ua at h;split at h
 . split at h
   . cases h;rfl
   . cases h
 . split at h
   . cases h;rfl
   . cases h
 . split at h
   . cases h;rfl
   . cases h
 . split at h
   . cases h;rfl
   . cases h
 . cases h;rfl
 . cases h
theorem de.AL(hS:de X w0 H0 ν oF w)(hn:gE is=true){ib:List Ob}(h:jJ md oF is is ib=some ib):de (Xc ν is) w (Hc md (HF X w0 H0 ν oF w) (Xc ν is) w) (eM ν is) (aW (eZ 0 ib)) w:=by
 have hI:=ui h;refine⟨rfl,rfl,rfl,bQ _,λ_ _ _=>rfl,Jj hS hI,λb o hb=>Hc_w hS hI hb,hS.tab,λk ob hk=>?_,λk ob b hk hb=>?_,λk k' o o' b hk hk' hb hb'=>?_,λk ob hk=>?_⟩
 . obtain⟨p,i,a,b,e1,e2,e3,e4⟩:=vh h hk;rw[ff]at e1;subst e1;obtain⟨b',c,n,kk,q1,q2,q3⟩:=hS.dD i a e3;refine⟨b',c,n,kk,lk e2 q1,q2,?_⟩;unfold ua at e4;split at e4
   . split at e4
     . rename_i hok;cases e4;obtain⟨r1,r0,cs,sp,r2,r3,r4⟩:=q3;exact⟨r1,r0,cs,sp,r2,r3.mono (Le.trans (qh hS hI hok) (ru hS hI _)),r4⟩
     . cases e4
   . split at e4
     . rename_i hok;cases e4;obtain⟨r1,r0,cs,sp,r2,r3,r4⟩:=q3;exact⟨r0,.inl ⟨r1,cs,sp,r2,r3.mono (Le.trans (qh hS hI hok) (ru hS hI _)),r4⟩⟩
     . cases e4
   . split at e4
     . rename_i hok;cases e4;exact⟨q3.1,q3.2.imp (λ⟨r1,cs,sp,r2,r3,r4⟩=>⟨r1,cs,sp,r2,r3.mono (Le.trans (qh hS hI hok) (ru hS hI _)),r4⟩) id⟩
     . cases e4
   . split at e4
     . rename_i x hx;cases e4;obtain⟨vs,r1,r2⟩:=q3;exact⟨vs,r1,GV hS hI (ru hS hI) hx r2⟩
     . cases e4
   . cases e4;exact q3
   . cases e4
 . obtain⟨p,i,a,b',e1,e2,e3,e4⟩:=vh h hk;rw[ff]at e1;subst e1;exact .inl ⟨i,oB e2,by rw[<-wg e2];exact(rF (Bn e4)).1 hb⟩
 . obtain⟨p,i,a,b1,e1,e2,e3,e4⟩:=vh h hk;obtain⟨p',i',a',b1',e1',e2',e3',e4'⟩:=vh h hk';rw[ff]at e1 e1';subst e1;subst e1';have:=hS.iq i i' a a' b e3 e3' (.inl (by rw[<-wg e2];exact(rF (Bn e4)).1 hb)) (.inl (by rw[<-wg e2'];exact(rF (Bn e4')).1 hb'));subst this;exact BI hn e2 e2'
 . obtain⟨p,i,a,b',e1,e2,e3,e4⟩:=vh h hk;have e:=Bn e4;exact⟨λt ht=>bX ht (by rw[vX e];simp),λb t _ ht=>bX ht (by rw[vX e];simp),λj hj=>bX hj (by rw[e];simp)⟩
end
def rn(is:List Nat)(nx k:Nat):Nat:=match is[k]?with
 |some i=>i
 |none=>nx+(k-is.length)
def nM:Option Bool->Bool->Bool
 |_,true=>true
 |none,false=>false
 |some κ,false=>κ
def oh:Option Bool->Bool->Bool
 |none,κ=>κ
 |some _,_=>true
def ud(md:Option Bool)(is:List Nat)(nx:Nat):Lf->Lf
 |.v x=>.v x
 |.ro r κ xs=>.ro r (nM md κ) xs
 |.cp r κ xs=>.cp r (nM md κ) xs
 |.own i=>.own (rn is nx i)
 |.ptr i o=>.ptr (rn is nx i) o
 |.mp i=>.mp (rn is nx i)
 |.pd q=>.pd q
 |.sg i sz lo hi=>.sg (rn is nx i) sz lo hi
 |.ap i r κ xs=>.ap (rn is nx i) r (nM md κ) xs
def l7(md:Option Bool)(is:List Nat)(nx:Nat):S1->S1
 |.lf l=>.lf (ud md is nx l)
 |.agg l=>.agg (l.map (ud md is nx))
def ta(md:Option Bool)(is:List Nat)(nx:Nat):Ob->Ob
 |.row r κ xs=>.row r (nM md κ) xs
 |.box l=>.box (l.map (ud md is nx))
 |.map dk kf vf m=>.map dk kf vf m
 |.deep t D xs hs=>.deep t D xs hs
 |.hd h i i' r κ xs=>.hd h i i' r κ xs
 |.aN r κ xs=>.aN r (nM md κ) xs
def okI(n:Nat):Lf->Bool
 |.own i=>Nat.blt i n
 |.ptr i _=>Nat.blt i n
 |.mp i=>Nat.blt i n
 |_=>true
def okL(md:Option Bool)(n:Nat):Lf->Bool
 |.ro _ κ _=>oh md κ
 |.cp _ κ _=>oh md κ
 |.pd _=>false
 |.sg .. =>false
 |.ap i _ κ _=>Nat.blt i n&&oh md κ
 |l=>okI n l
def qa(md:Option Bool)(n:Nat):S1->Bool
 |.lf l=>okL md n l
 |.agg l=>l.all (okL md n)
def okO(md:Option Bool)(n:Nat):Ob->Bool
 |.row _ κ _=>oh md κ
 |.box l=>l.all (okL md n)
 |.map _ _ _ _=>true
 |.deep _ _ _ _=>false
 |.hd .. =>false
 |.aN _ κ _=>oh md κ
def oI(md:Option Bool)(n:Nat):List (Nat×Option Ob)->Bool
 |[]=>true
 |(k,some o)::r=>Nat.blt k n&&okO md n o&&oI md n r
 |(_,none)::_=>false
def fF(md:Option Bool)(is:List Nat)(nx:Nat):List (Nat×Option Ob)->List (Nat×Option Ob)
 |[]=>[]
 |(k,o)::r=>(rn is nx k,o.map (ta md is nx))::fF md is nx r
def iN:List Nat->List (Nat×Option Ob)
 |[]=>[]
 |i::r=>(i,none)::iN r
def qx:List S1->Sv
 |[s]=>.s s
 |l=>.fX l
def jy(ν ν':Nu)(m nx nn:Nat):Nu:=⟨λk=>bif Nat.ble nx k&&Nat.blt k (nx+nn)then ν' (m+(k-nx))else ν k,ν.tl,ν.tc⟩
theorem KC{ν ν':Nu}{m nx nn k:Nat}:jy ν ν' m nx nn k=bif Nat.ble nx k&&Nat.blt k (nx+nn)then ν' (m+(k-nx))else ν k:=rfl
theorem Kc{md:Option Bool}{n:Nat}{o:Ob}(h:okO md n o=true):o.tid=none:=by cases o<;>first|rfl|cases h
theorem Pg{md:Option Bool}{is:List Nat}{nx:Nat}{o:Ob}:(ta md is nx o).tid=o.tid:=by cases o<;>rfl
theorem Ci{ν ν':Nu}{m nx nn:Nat}:jr nx nn ν (jy ν ν' m nx nn):=λk hk=>by
 rw[KC];have:(Nat.ble nx k&&Nat.blt k (nx+nn))=false:=by
  cases h1:Nat.ble nx k with
  |false=>rfl
  |true=>
   have h1:=lM h1;cases h2:Nat.blt k (nx+nn)with
   |false=>rfl
   |true=>have h2:k+1<=nx+nn:=lM h2;omega
 rw[this];rfl
theorem W0{ν ν':Nu}{m nx nn j:Nat}(h:j<nn):jy ν ν' m nx nn (nx+j)=ν' (m+j):=by
 rw[KC];have h1:Nat.ble nx (nx+j)=true:=PI (by omega);have h2:Nat.blt (nx+j) (nx+nn)=true:=by show Nat.ble (nx+j+1) (nx+nn)=true;exact PI (by omega)
 rw[h1,h2];simp
section
variable {md:Option Bool} {X:Nat->Prop} {w0 w w':World} {H0:Bool->Hp} {ν ν':Nu} {oF:OF} {is:List Nat} {nx nn:Nat}
theorem qd(hν:∀k,nx<=k->k<nx+nn->ν k=none)(hp:∀k,k<is.length->ν' k=eM ν is k){k:Nat}{x:Option Nat×Nat×Nat}(hk:k<is.length+nn)(h:ν' k=some x):jy ν ν' is.length nx nn (rn is nx k)=some x:=by
 unfold rn;rcases cG k is.length with h1|h1
 . rw[cy h1];rw[hp k h1]at h;rw[qU,cy h1]at h;have h:ν is[k]=some x:=h;exact Ci.le hν _ _ h
 . rw[gm h1];show jy ν ν' is.length nx nn (nx+(k-is.length))=some x;rw[W0 (by omega),show is.length+(k-is.length)=k by omega];exact h
variable {out:List (Nat×Option Ob)} {H H':Bool->Hp}
theorem La(hν:∀k,nx<=k->k<nx+nn->ν k=none)(hp:∀k,k<is.length->ν' k=eM ν is k)(hH:∀κ,oh md κ=true->Le (H κ) (H' (nM md κ))){l:Lf}{v:Value}(hk:okL md (is.length+nn) l=true)(h:l.R ν' H v):(ud md is nx l).R (jy ν ν' is.length nx nn) H' v:=by
 have lt:∀{i n:Nat},Nat.blt i n=true->i<n:=λh=>lM h;cases l with
 |v x=>exact h
 |ro r κ xs=>exact Rs.mono h (hH κ hk)
 |cp r κ xs=>exact⟨Rs.mono h.1 (hH κ hk),h.2⟩
 |own i=>obtain⟨b,c,n,h1,h2⟩:=h;exact⟨b,c,n,qd hν hp (lt hk) h1,h2⟩
 |ptr i o=>obtain⟨b,c,h1,h2⟩:=h;exact⟨b,c,qd hν hp (lt hk) h1,h2⟩
 |mp i=>obtain⟨b,c,h1,h2⟩:=h;exact⟨b,c,qd hν hp (lt hk) h1,h2⟩
 |pd q=>cases hk
 |sg i sz lo hi=>cases hk
 |ap i r κ xs=>
  have hk:(Nat.blt i (is.length+nn)&&oh md κ)=true:=hk;rw[gz]at hk;obtain⟨b,c,n,h1,h2⟩:=h;exact⟨b,c,n,qd hν hp (lt hk.1) h1,h2.imp id λh=>⟨h.1,Rs.mono h.2.1 (hH κ hk.2),h.2.2⟩⟩
theorem EZ(hν:∀k,nx<=k->k<nx+nn->ν k=none)(hp:∀k,k<is.length->ν' k=eM ν is k)(hH:∀κ,oh md κ=true->Le (H κ) (H' (nM md κ))):∀{l:List Lf} {v:List Value},l.all (okL md (is.length+nn))=true->dz ν' H l v->dz (jy ν ν' is.length nx nn) H' (l.map (ud md is nx)) v
 |[],_,_,h=>h
 |x::r,_,hk,⟨a,az,h1,h2,h3⟩=>by
  simp only[DZ,gz]at hk;exact⟨a,az,h1,La hν hp hH hk.1 h2,EZ hν hp hH hk.2 h3⟩
theorem EB(hν:∀k,nx<=k->k<nx+nn->ν k=none)(hp:∀k,k<is.length->ν' k=eM ν is k)(hH:∀κ,oh md κ=true->Le (H κ) (H' (nM md κ))):∀{l:List S1} {v:List Value},l.all (qa md (is.length+nn))=true->eD ν' H l v->eD (jy ν ν' is.length nx nn) H' (l.map (l7 md is nx)) v
 |[],_,_,h=>h
 |.lf x::r,_,hk,⟨a,az,h1,h2,h3⟩=>by
  simp only[DZ,gz]at hk;exact⟨a,az,h1,La (l:=x) hν hp hH hk.1 h2,EB hν hp hH hk.2 h3⟩
 |.agg x::r,_,hk,⟨a,az,h1,⟨vs,h2,h4⟩,h3⟩=>by
  simp only[DZ,gz]at hk;exact⟨a,az,h1,⟨vs,h2,EZ hν hp hH hk.1 h4⟩,EB hν hp hH hk.2 h3⟩
theorem R0(hν:∀k,nx<=k->k<nx+nn->ν k=none)(hp:∀k,k<is.length->ν' k=eM ν is k)(hH:∀κ,oh md κ=true->Le (H κ) (H' (nM md κ))){c n:Nat}{k:dE}{o:Ob}(hk:okO md (is.length+nn) o=true)(h:o.R ν' H c n k):(ta md is nx o).R (jy ν ν' is.length nx nn) H' c n k:=by
 cases o with
 |row r κ xs=>obtain⟨e1,e0,cs,sp,e2,e3,e4⟩:=h;exact⟨e1,e0,cs,sp,e2,e3.mono (hH κ hk),e4⟩
 |box l=>obtain⟨vs,e1,e2⟩:=h;exact⟨vs,e1,EZ hν hp hH hk e2⟩
 |map dk kf vf m=>exact h
 |deep t D xs hs=>cases hk
 |hd h i i' r κ xs=>cases hk
 |aN r κ xs=>
  obtain⟨h0,h⟩:=h;exact⟨h0,h.imp (λ⟨e,cs,sp,g1,g2,g3⟩=>⟨e,cs,sp,g1,g2.mono (hH κ hk),g3⟩) id⟩
theorem Qv{ν:Nu}:∀{l:List S1} {vs:List Value},eD ν H l vs->(qx l).R ν H (jW vs)
 |[],_,h=>by rw[show _=[] from h];exact⟨[],rfl,rfl⟩
 |[_],_,⟨a,az,h1,h2,h3⟩=>by rw[h1,show az=[] from h3];exact h2
 |_::_::_,_,⟨a,az,h1,h2,a',az',h3,h4,h5⟩=>by rw[h1,h3];exact⟨a::a'::az',rfl,a,_,rfl,h2,a',_,rfl,h4,h5⟩
theorem LS:∀{out:List (Nat×Option Ob)} {n k:Nat} {o:Option Ob},oI md n out=true->(k,o)∈out->∃ob,o=some ob/\k<n/\okO md n ob=true
 |[],_,_,_,_,h=>by cases h
 |(j,some x)::r,n,k,o,hk,h=>by
  simp only[oI,gz]at hk;rcases eJ.1 h with e|e
  . cases e;exact⟨x,rfl,lM hk.1.1,hk.1.2⟩
  . exact LS hk.2 e
 |(j,none)::r,n,k,o,hk,h=>by cases hk
theorem Np{α:Type 1}:∀{l:List (Nat×Option α)} {k:Nat} {o:Option α},gE (l.map (·.1))=true->(k,o)∈l->aW l k=o
 |[],_,_,_,h=>by cases h
 |(j,x)::r,k,o,hn,h=>by
  simp only[kZ,gE,gz,IP]at hn;show(bif Nat.beq k j then x else aW r k)=o;rcases eJ.1 h with e|e
  . cases e;rw[sK];rfl
  . have:Nat.beq k j=false:=by
     cases hb:Nat.beq k j with
     |false=>rfl
     |true=>
      have:=ee hb;subst this;have:=jH.2 (eh.2 ⟨_,e,rfl⟩:k∈r.map (·.1));rw[this]at hn;cases hn.1
    rw[this];exact Np hn.2 e
def jQ:List (Nat×Option Ob)->List (Nat×Ob)
 |[]=>[]
 |(k,some o)::r=>(k,o)::jQ r
 |(_,none)::r=>jQ r
theorem BB:∀{l:List (Nat×Option Ob)} {k:Nat} {o:Ob},(k,o)∈jQ l↔(k,some o)∈l
 |[],_,_=>by simp[jQ]
 |(j,some x)::r,k,o=>by simp[jQ,BB (l:=r)]
 |(j,none)::r,k,o=>by simp[jQ,BB (l:=r)]
theorem Fe:∀{l:List Nat} {k:Nat} {o:Option Ob},(k,o)∈iN l->k∈l/\o=none
 |[],_,_,h=>by cases h
 |i::r,k,o,h=>by
  rcases eJ.1 h with e|e
  . cases e;exact⟨cU,rfl⟩
  . obtain⟨h1,h2⟩:=Fe e;exact⟨cP _ h1,h2⟩
theorem Bk:∀{l:List Nat},(iN l).map (·.1)=l
 |[]=>rfl
 |i::r=>by show i::(iN r).map (·.1)=_;rw[Bk]
theorem LQ{ν:Nu}{w:World}{H:Bool->Hp}:∀{l:List (Nat×Ob)},(∀x∈l,∃b c n k,ν x.1=some (b,c,n)/\dR w b k/\x.2.R ν H c n k)->(l.map (·.1)).Nodup->(∀x∈l,∀y∈l,∀b,dP ν x.1=some b->dP ν y.1=some b->x.1=y.1)->
 ∃C,iv w (Os ν l) C/\jM (Os ν l)/\ObsR ν H l C
 |[],_,_,_=>⟨[],trivial,trivial,rfl⟩
 |x::r,h,hn,hd=>by
  obtain⟨b,c,n,k,h1,h2,h3⟩:=h x cU;have hn':=PN.1 (show(x.1::r.map (·.1)).Nodup from hn);obtain⟨C,g1,g2,g3⟩:=LQ (l:=r) (λy hy=>h y (cP _ hy)) hn'.2 (λy hy z hz=>hd y (cP _ hy) z (cP _ hz));refine⟨k::C,?_,?_,b,c,n,k,C,rfl,h1,h3,g3⟩
  . show dR w (dP ν x.1) k/\_;rw[eV h1];exact⟨h2,g1⟩
  . show jM (dP ν x.1::Os ν r);cases hb:dP ν x.1 with
    |none=>exact g2
    |some b'=>
     refine⟨λhm=>?_,g2⟩;obtain⟨y,q1,q2⟩:=K5 hm;have:=hd x cU y (cP _ q1) b' hb q2;exact hn'.1 (eh.2 ⟨y,q1,this.symm⟩)
end
section
variable {P:Program} {L:SS}
theorem TY{md:Option Bool}{is:List Nat}{o0 oF:OF}(ho:∀i ob,o0 i=some ob->oF i=some ob):∀{l:List Nat} {ib ib':List Ob},jJ md o0 is l ib=some ib'->jJ md oF is l ib=some ib':=by
 have upL:∀{a b l:Lf},pH md o0 is a b=some l->pH md oF is a b=some l:=by
  intro a b l h;unfold pH at h⊢;split at h<;>first|exact h|skip
  split at h<;>first|exact h|skip
  split at h<;>first|exact h|skip
  split at h
  . rename_i hi;rw[ho _ _ hi];exact h
  . cases h
  split at h<;>first|exact h|skip
  split at h
  . rename_i hi;rw[ho _ _ hi];exact h
  . cases h
 have upLs:∀{a b l:List Lf},nN md o0 is a b=some l->nN md oF is a b=some l:=by
  intro a
  induction a with
  |nil=>intro b l h;cases b<;>exact h
  |cons x r ih=>
   intro b l h;cases b with
   |nil=>exact h
   |cons y s=>
    simp only[nN]at h⊢;split at h
    . rename_i u hu;rw[upL hu];split at h
      . rename_i z hz;rw[ih hz];exact h
      . cases h
    . cases h
 intro l
 induction l with
 |nil=>intro ib ib' h;cases ib<;>exact h
 |cons i r ih=>
  intro ib ib' h;cases ib with
  |nil=>exact h
  |cons b s=>
   simp only[jJ]at h⊢;split at h
   . rename_i a ha;rw[ho _ _ ha];dsimp only;split at h
     . rename_i x hx;have hx':ua md oF is a b=some x:=by
        unfold ua at hx⊢;split at hx<;>first|exact hx|skip
        split at hx
        . rename_i q hq;rw[upLs hq];exact hx
        . cases hx
       rw[hx'];dsimp only;split at h
       . rename_i y hy;rw[ih hy];exact h
       . cases h
     . cases h
   . cases h
theorem HI{md:Option Bool}{is:List Nat}{o0 oF:OF}(ho:∀i ob,o0 i=some ob->oF i=some ob):∀{a b l:List S1},lh md o0 is a b=some l->lh md oF is a b=some l:=by
 have upL:∀{a b l:Lf},pH md o0 is a b=some l->pH md oF is a b=some l:=by
  intro a b l h;unfold pH at h⊢;split at h<;>first|exact h|skip
  split at h<;>first|exact h|skip
  split at h<;>first|exact h|skip
  split at h
  . rename_i hi;rw[ho _ _ hi];exact h
  . cases h
  split at h<;>first|exact h|skip
  split at h
  . rename_i hi;rw[ho _ _ hi];exact h
  . cases h
 have upLs:∀{a b l:List Lf},nN md o0 is a b=some l->nN md oF is a b=some l:=by
  intro a
  induction a with
  |nil=>intro b l h;cases b<;>exact h
  |cons x r ih=>
   intro b l h;cases b with
   |nil=>exact h
   |cons y s=>
    simp only[nN]at h⊢;split at h
    . rename_i u hu;rw[upL hu];split at h
      . rename_i z hz;rw[ih hz];exact h
      . cases h
    . cases h
 intro a
 induction a with
 |nil=>intro b l h;cases b<;>exact h
 |cons x r ih=>
  intro b l h;cases b with
  |nil=>cases x<;>exact h
  |cons y s=>
   cases x<;>cases y<;>simp only[lh]at h⊢<;>first|(cases h;done)|skip
   . split at h
     . rename_i u hu;rw[upL hu];split at h
       . rename_i z hz;rw[ih hz];exact h
       . cases h
     . cases h
   . split at h
     . rename_i u hu;rw[upLs hu];split at h
       . rename_i z hz;rw[ih hz];exact h
       . cases h
     . cases h
theorem AR(md:Option Bool)(is:List Nat)(nn nx:Nat){X:Nat->Prop}{w0 w w':World}{H0:Bool->Hp}{ν ν':Nu}{oF:OF}{e:Env}{rs:List S1}{vs:List Value}{out:List (Nat×Option Ob)}(hS:de X w0 H0 ν oF w)(hI:∀i∈is,∃ob,oF i=some ob)(hn:gE is=true)
    (h1:oI md (is.length+nn) out=true)(h2:rs.all (qa md (is.length+nn))=true)(h3:gE (out.map (·.1))=true)(hνx:∀k,nx<=k->k<nx+nn->ν k=none)
    (hp:∀k,k<is.length->ν' k=eM ν is k)(hE:de (Xc ν is) w (Hc md (HF X w0 H0 ν oF w) (Xc ν is) w) ν' (aW out) w')(hr:eD ν' (HF (Xc ν is) w (Hc md (HF X w0 H0 ν oF w) (Xc ν is) w) ν' (aW out) w') rs vs):
    ∃ν2,jr nx nn ν ν2/\de X w0 H0 ν2 (bS (fF md is nx out++iN is) oF) w'/\(∀κ,Le (HF X w0 H0 ν oF w κ) (HF X w0 H0 ν2 (bS (fF md is nx out++iN is) oF) w' κ))/\dO ν2 (HF X w0 H0 ν2 (bS (fF md is nx out++iN is) oF) w') (aW []) e/\svR ν2 (HF X w0 H0 ν2 (bS (fF md is nx out++iN is) oF) w') (some (qx (rs.map (l7 md is nx)))) (jW vs):=by
  refine⟨jy ν ν' is.length nx nn,Ci,?_⟩;have keysO:∀{k:Nat} {o:Ob},(k,some o)∈out->k<is.length+nn/\okO md (is.length+nn) o=true:=λh=>by
    obtain⟨ob,g1,g2,g3⟩:=LS h1 h;cases g1;exact⟨g2,g3⟩
  have getO:∀{k:Nat} {o:Ob},(k,some o)∈out->aW out k=some o:=λh=>Np h3 h;have rnI:∀{k k':Nat},k<is.length+nn->k'<is.length+nn->(∃x,ν' k=some x)->(∃x,ν' k'=some x)->rn is nx k=rn is nx k'->k=k':=by
    intro k k' hk hk' hx hx' he;have fg:∀{k:Nat},k<is.length->(∃x,ν' k=some x)->∃x,ν (rn is nx k)=some x:=by
      intro k hk ⟨x,hx⟩;rw[hp k hk]at hx;rw[qU]at hx;unfold rn;rw[cy hk]at hx⊢;exact⟨x,hx⟩
    have new:∀{k:Nat},is.length<=k->k<is.length+nn->rn is nx k=nx+(k-is.length)/\ν (rn is nx k)=none:=by
      intro k hk hk2;have e:rn is nx k=nx+(k-is.length):=by unfold rn;rw[gm hk]
      exact⟨e,by rw[e];exact hνx _ (by omega) (by omega)⟩
    rcases cG k is.length with g|g<;>rcases cG k' is.length with g'|g'
    . have e1:rn is nx k=is[k]:=by unfold rn;rw[cy g]
      have e2:rn is nx k'=is[k']:=by unfold rn;rw[cy g']
      rw[e1,e2]at he;exact BI hn (cy g) (by rw[cy g',he])
    . obtain⟨x,hx⟩:=fg g hx;rw[he,(new g' hk').2]at hx;cases hx
    . obtain⟨x,hx⟩:=fg g' hx';rw[<-he,(new g hk).2]at hx;cases hx
    . have a:=(new g hk).1;have b:=(new g' hk').1;omega
  have hasν:∀{k:Nat} {o:Ob},(k,some o)∈out->∃x,ν' k=some x:=λh=>by
    obtain⟨b,c,n,kk,q1,_⟩:=hE.dD _ _ (getO h);exact⟨_,q1⟩
  have nw:∀x∈jQ (fF md is nx out),∃k o,(k,some o)∈out/\x=(rn is nx k,ta md is nx o):=by
    have gen:∀(l:List (Nat×Option Ob)),∀x∈jQ (fF md is nx l),∃k o,(k,some o)∈l/\x=(rn is nx k,ta md is nx o):=by
      intro l
      induction l with
      |nil=>intro x hx;cases hx
      |cons y r ih=>
        obtain⟨j,o⟩:=y;intro x hx;cases o with
        |none=>obtain⟨k,o,g1,g2⟩:=ih x hx;exact⟨k,o,cP _ g1,g2⟩
        |some o=>
          rcases eJ.1 (show x∈(rn is nx j,ta md is nx o)::jQ (fF md is nx r) from hx)with e|e
          . exact⟨j,o,cU,e⟩
          . obtain⟨k,o,g1,g2⟩:=ih x e;exact⟨k,o,cP _ g1,g2⟩
    exact gen out
  have hle0:∀(H':Bool->Hp),(∀κ,Le (HF X w0 H0 ν oF w κ) (H' κ))->(∀κ b o,(Xc ν is b\/w.heap.size<=b)->¬Ow ν' (aW out) b->l6 (w'.heap[b]?)=some o->H' κ b=some o)->∀κ,oh md κ=true->Le (HF (Xc ν is) w (Hc md (HF X w0 H0 ν oF w) (Xc ν is) w) ν' (aW out) w' κ) (H' (nM md κ)):=by
    intro H' hH hn κ hk b o h;rcases tM h with⟨g1,g1',g2⟩|⟨g1,g2,g3⟩
    . cases κ with
      |true=>
        have e:nM md true=true:=by cases md<;>rfl
        rw[e];exact hH true b o g2
      |false=>cases md with
        |none=>cases hk
        |some κ0=>exact hH κ0 b o g2
    . exact hn _ b o g1 g2 g3
  have rel:∀(H':Bool->Hp),(∀κ,Le (HF X w0 H0 ν oF w κ) (H' κ))->(∀κ b o,(Xc ν is b\/w.heap.size<=b)->¬Ow ν' (aW out) b->l6 (w'.heap[b]?)=some o->H' κ b=some o)->
      (∀x∈jQ (fF md is nx out),∃b c n k,jy ν ν' is.length nx nn x.1=some (b,c,n)/\dR w' b k/\x.2.R (jy ν ν' is.length nx nn) H' c n k):=by
    intro H' hH hN x hx;obtain⟨k,o,g1,rfl⟩:=nw x hx;obtain⟨b,c,n,kk,q1,q2,q3⟩:=hE.dD k o (getO g1);obtain⟨g2,g3⟩:=keysO g1;exact⟨b,c,n,kk,qd hνx hp g2 q1,q2,R0 hνx hp (hle0 H' hH hN) g3 q3⟩
  have dist':∀x∈jQ (fF md is nx out),∀y∈jQ (fF md is nx out),∀b,dP (jy ν ν' is.length nx nn) x.1=some b->dP (jy ν ν' is.length nx nn) y.1=some b->x.1=y.1:=by
    intro x hx y hy b hxb hyb;obtain⟨k,o,g1,rfl⟩:=nw x hx;obtain⟨k',o',g1',rfl⟩:=nw y hy;obtain⟨⟨b1,c1⟩,q1⟩:=hasν g1;obtain⟨⟨b2,c2⟩,q2⟩:=hasν g1';have e1:=qd hνx hp (keysO g1).1 q1;have e2:=qd hνx hp (keysO g1').1 q2;dsimp only at hxb hyb;rw[eV e1]at hxb;rw[eV e2]at hyb;subst hxb;subst hyb;have:=hE.iq k k' o o' b (getO g1) (getO g1') (.inl (eV q1)) (.inl (eV q2));subst this;rfl
  have nodup':((jQ (fF md is nx out)).map (·.1)).Nodup:=by
    have gen:∀(l:List (Nat×Option Ob)),(∀x∈l,x∈out)->gE (l.map (·.1))=true->((jQ (fF md is nx l)).map (·.1)).Nodup/\∀k∈(jQ (fF md is nx l)).map (·.1),∃j o,(j,some o)∈l/\k=rn is nx j:=by
      intro l
      induction l with
      |nil=>intro _ _;exact⟨List.nodup_nil,λk hk=>by cases hk⟩
      |cons y r ih=>
        obtain⟨j,o⟩:=y;intro hsub hnd;simp only[kZ,gE,gz,IP]at hnd;obtain⟨i1,i2⟩:=ih (λx hx=>hsub x (cP _ hx)) hnd.2;cases o with
        |none=>exact⟨i1,λk hk=>by obtain⟨j',o',g1,g2⟩:=i2 k hk;exact⟨j',o',cP _ g1,g2⟩⟩
        |some o=>
          refine⟨PN.2 ⟨λhm=>?_,i1⟩,λk hk=>?_⟩
          . obtain⟨j',o',g1,g2⟩:=i2 _ hm;have hj:=hsub _ cU;have hj':=hsub _ (cP _ g1);have:=rnI (keysO hj).1 (keysO hj').1 (hasν hj) (hasν hj') g2;subst this;have:=jH.2 (eh.2 ⟨_,g1,rfl⟩:j∈r.map (·.1));rw[this]at hnd;cases hnd.1
          . rcases eJ.1 (show k∈rn is nx j::(jQ (fF md is nx r)).map (·.1) from hk)with e|e
            . exact⟨j,o,cU,e⟩
            . obtain⟨j',o',g1,g2⟩:=i2 k e;exact⟨j',o',cP _ g1,g2⟩
    exact(gen out (λ_ h=>h) h3).1
  obtain⟨C',l1,l2,l3⟩:=LQ (H:=λ_ b=>w'.heap[b]?) (λx hx=>rel (λ_ b=>w'.heap[b]?) (λκ b o hb=>by
    obtain⟨g1,g2⟩:=hS.rd hb;have:¬Xc ν is b:=λhx=>g2 (Ck hI hx);have:=hE.keep b (ld g1) this;show w'.heap[b]?=some o;rw[this];exact g1) (λκ b o _ _ h=>nR h) x hx) nodup' dist'
  have hO:∀b,some b∈is.map (dP ν)->Xc ν is b:=λb hb=>by
    obtain⟨i,g1,g2⟩:=eh.1 hb;exact⟨i,g1,g2⟩
  have hO':∀b,Xc ν is b->some b∈is.map (dP ν):=λb ⟨i,g1,g2⟩=>eh.2 ⟨i,g1,g2⟩;have hLoc:Go.X.Loc (is.map (dP ν)) [] w w' (Os (jy ν ν' is.length nx nn) (jQ (fF md is nx out))) C':=by
    refine⟨hE.os,hE.tape,hE.output,hE.size,λk hk hx=>hE.keep k hk (λh=>hx (hO' k h)),l1,λb hb=>?_,l2,λ_ _ h=>(by cases h),λ_ h=>(by cases h)⟩;obtain⟨x,g1,g2⟩:=K5 hb;obtain⟨k,o,g3,rfl⟩:=nw x g1;obtain⟨⟨b1,c1⟩,q1⟩:=hasν g3;dsimp only at g2;rw[eV (qd hνx hp (keysO g3).1 q1)]at g2;subst g2;rcases hE.fresh k o b (getO g3) (.inl (eV q1))with g|g
    . exact .inl (hO' b g)
    . exact .inr g
  have owN:∀{b:Nat},(Xc ν is b\/w.heap.size<=b)->¬Ow ν' (aW out) b->¬Ow (jy ν ν' is.length nx nn) (bS (fF md is nx out++iN is) oF) b:=by
    rintro b hb hno ⟨i,ob,g1,g2⟩;rcases kd g1 with g3|⟨g3,g4⟩
    . rcases gH.1 g3 with g3|g3
      . obtain⟨k,o,q1,q2⟩:=nw (i,ob) (BB.2 g3);cases q2;obtain⟨⟨b1,c1⟩,q3⟩:=hasν q1;have g2:=(rF (ν:=jy ν ν' is.length nx nn) (by rw[Pg];exact Kc (keysO q1).2)).1 g2;rw[eV (qd hνx hp (keysO q1).1 q3)]at g2;subst g2;exact hno ⟨k,o,getO q1,.inl (eV q3)⟩
      . have:=(Fe g3).2;cases this
    . obtain⟨b1,c,n,kk,q1,q2,_⟩:=hS.dD i ob g3;have e:dP (jy ν ν' is.length nx nn) i=b1:=eV (Ci.le hνx _ _ q1);have g2:gA ν i ob b:=by
        rcases g2 with g2|g2
        . exact .inl (by rw[eV q1,<-e];exact g2)
        . exact .inr (by unfold iL at g2⊢;rw[e]at g2;rw[eV q1];exact g2)
      have q2:b<w.heap.size:=hS.ltO g3 g2;rcases hb with hb|hb
      . obtain⟨j,q4,q5⟩:=hb;obtain⟨oj,q6⟩:=hI j q4;have:=hS.iq i j ob oj b g3 q6 g2 (.inl q5);subst this;have hm:cI i ((fF md is nx out++iN is).map (·.1))=true:=jH.2 (by
          rw[iC,Bk];exact xt _ q4)
        rw[hm]at g4;cases g4
      . omega
  have hN:∀(κ:Bool) b o,(Xc ν is b\/w.heap.size<=b)->¬Ow ν' (aW out) b->l6 (w'.heap[b]?)=some o->HF X w0 H0 (jy ν ν' is.length nx nn) (bS (fF md is nx out++iN is) oF) w' κ b=some o:=by
    intro κ b o hb hno hw;refine mq ?_ (owN hb hno) hw;rcases hb with⟨i,q1,q2⟩|hb
    . obtain⟨oi,q3⟩:=hI i q1;exact hS.fresh i oi b q3 (.inl q2)
    . exact .inr (bV hS.size hb)
  have hF':∀i ob,bS (fF md is nx out++iN is) oF i=some ob->(oF i=some ob/\i∉is)\/(i,ob)∈jQ (fF md is nx out):=by
    intro i ob h;rcases kd h with h|⟨h,h'⟩
    . rcases gH.1 h with h|h
      . exact .inr (BB.2 h)
      . have:=(Fe h).2;cases this
    . refine .inl ⟨h,λhm=>?_⟩;have:cI i ((fF md is nx out++iN is).map (·.1))=true:=jH.2 (by
        rw[iC,Bk];exact xt _ hm)
      rw[this]at h';cases h'
  obtain⟨k1,k2⟩:=hS.go (T:=is) (O:=is.map (dP ν)) (oF':=bS (fF md is nx out++iN is) oF) (new:=jQ (fF md is nx out)) (ν':=jy ν ν' is.length nx nn)
    (λb hb=>by obtain⟨i,g1,g2⟩:=eh.1 hb;obtain⟨ob,g3⟩:=hI i g1;exact⟨i,g1,ob,g3,g2⟩) hLoc (Ci.le hνx) rfl nodup' hF' (λhle=>rel _ hle hN) (λx hx=>by obtain⟨k,o,g1,rfl⟩:=nw x hx;show(ta md is nx o).tid=none;rw[Pg];exact Kc (keysO g1).2) ⟨rfl,rfl⟩
  exact⟨k1,k2,n9,Qv (EB hνx hp (hle0 _ k2 hN) h2 hr)⟩
theorem My(md:Option Bool)(is:List Nat)(nn:Nat){f:FuncId}{args:List Operand}{ats:Array TypeId}{ty:TypeId}{l0 ls az rs:List S1}{ib:List Ob}{out:List (Nat×Option Ob)}(c:Cx P f az ib out rs)(ha:oT L args=some l0)(hc:∀ν H v,eD ν H l0 v->eD ν H ls v)(hl:lh md (aW L.bL) is ls az=some az)(hb:jJ md (aW L.bL) is is ib=some ib)(hn:gE is=true)
 (h1:oI md (is.length+nn) out=true)(h2:rs.all (qa md (is.length+nn))=true)(h3:gE (out.map (·.1))=true):
 LT P L (.call {callee:=.value (.func f),args:=args.toArray,argTypes:=ats}) ty ⟨nn,fF md is L.nx out++iN is,[]⟩ (some (qx (rs.map (l7 md is L.nx)))):=by
 refine⟨λX w0 H0 ν oF e w ho hν hS hs=>?_⟩;have hb:=TY ho hb;have hl:=HI ho hl;have hI:=ui hb;have hlen:ib.length=is.length:=Lz hb;have hin:=hS.AL hn hb;have hargs:=zE hS hI (ru (md:=md) (νc:=eM ν is) (cF:=aW (eZ 0 ib)) hS hI) hl (hc _ _ _ (Cg hs ha));refine aF.JC c.1 rfl rfl (c.2 (Xc ν is) w _ (eM ν is) _ (λk hk=>by rw[qU,gm (by omega)];rfl) hin hargs) ?_;rintro en w' ⟨vs,rfl,ν',hp,hE,hr⟩;rw[hlen]at hp;exact⟨jW vs,rfl,AR md is nn L.nx hS hI hn h1 h2 h3 hν hp hE hr⟩
theorem L3(md:Option Bool)(is:List Nat)(nn:Nat){f:FuncId}{args:List Operand}{ats:Array TypeId}{ty:TypeId}{ls az rs:List S1}{ib:List Ob}{out:List (Nat×Option Ob)}(c:Cx P f az ib out rs)(ha:oT L args=some ls)(hl:lh md (aW L.bL) is ls az=some az)(hb:jJ md (aW L.bL) is is ib=some ib)(hn:gE is=true)
 (h1:oI md (is.length+nn) out=true)(h2:rs.all (qa md (is.length+nn))=true)(h3:gE (out.map (·.1))=true):
 LT P L (.call {callee:=.value (.func f),args:=args.toArray,argTypes:=ats}) ty ⟨nn,fF md is L.nx out++iN is,[]⟩ (some (qx (rs.map (l7 md is L.nx)))):=My md is nn c ha (λ_ _ _ h=>h) hl hb hn h1 h2 h3
end
open Go Go.RowKit Go.X
variable [fy]
class aO {α:Type} (r:cx α)where
 cl:Bool->α->List Lf
 op:∀{ν:Nu} {H:Bool->Hp} {κ:Bool} {vs:List Value} {x:α},r.R (H κ) vs x->dz ν H (cl κ x) vs
 co:∀{ν:Nu} {H:Bool->Hp} {κ:Bool} {vs:List Value} {x:α},dz ν H (cl κ x) vs->r.R (H κ) vs x
instance {k:IntKind}:aO (BO k):=⟨λ_ x=>[.v (.int k x)],λh=>⟨_,[],h,⟨rfl,rfl⟩,rfl⟩,λ⟨_,_,h1,h2,h3⟩=>by rw[h1,h2.1,show _=[] from h3];rfl⟩
instance:aO AM:=⟨λ_ x=>[.v (.bool x)],λh=>⟨_,[],h,⟨rfl,rfl⟩,rfl⟩,λ⟨_,_,h1,h2,h3⟩=>by rw[h1,h2.1,show _=[] from h3];rfl⟩
instance:aO iy:=⟨λ_ x=>[.v (.string (s8 x))],λh=>⟨_,[],h,⟨rfl,rfl⟩,rfl⟩,λ⟨_,_,h1,h2,h3⟩=>by rw[h1,h2.1,show _=[] from h3];rfl⟩
instance {α:Type}{r:cx α}:aO (kL r):=⟨λκ x=>[.ro r κ x],λ⟨v,h1,h2⟩=>⟨v,[],h1,h2,rfl⟩,λ⟨v,_,h1,h2,h3⟩=>⟨v,by rw[h1,show _=[] from h3],h2⟩⟩
abbrev sI(k:IntKind)(x:Int):S1:=.lf (.v (.int k x))
abbrev sB(x:Bool):S1:=.lf (.v (.bool x))
abbrev sT(x:List UInt8):S1:=.lf (.v (.string (s8 x)))
abbrev sR{α:Type}(r:cx α)(κ:Bool)(xs:List α):S1:=.lf (.ro r κ xs)
abbrev sA{α:Type}(r:cx α)[aO r](κ:Bool)(x:α):S1:=.agg (aO.cl r κ x)
abbrev sO(i:Nat):S1:=.lf (.own i)
abbrev lI(k:IntKind)(x:Int):Lf:=.v (.int k x)
abbrev lB(x:Bool):Lf:=.v (.bool x)
abbrev lN:Lf:=.v (.slice none 0 0)
abbrev vl(t:Nat)(l:Lf):Nat×Option Sv:=(t,some (.s (.lf l)))
abbrev vi(t:Nat)(x:Int):Nat×Option Sv:=(t,some (.s (sI .i64 x)))
abbrev vk(t:Nat)(k:IntKind)(x:Int):Nat×Option Sv:=(t,some (.s (sI k x)))
abbrev vb(t:Nat)(x:Bool):Nat×Option Sv:=(t,some (.s (sB x)))
abbrev vt(t:Nat)(x:List UInt8):Nat×Option Sv:=(t,some (.s (sT x)))
abbrev vr(t:Nat){α:Type}(r:cx α)(κ:Bool)(xs:List α):Nat×Option Sv:=(t,some (.s (sR r κ xs)))
abbrev vo(t i:Nat):Nat×Option Sv:=(t,some (.s (.lf (.own i))))
abbrev vp(t i:Nat):Nat×Option Sv:=(t,some (.s (.lf (.ptr i 0))))
section
variable {P:Program} {tb:List (dZ P)} {L:SS} {o:Oper} {ef:Ef} {sv:Option Sv} {K:Ef->Option Sv->Prop}
theorem cJ.of(h:LT P L o.op o.type ef sv)(nx:K ef sv):cJ tb o L K:=⟨ef,sv,h,nx⟩
theorem jk{t s:Nat}{T:dZ P}(h:cZ tb t=some T)(hs:T.sz=s):TI P t s T.qZ T.z:=by subst hs;exact gJ h
theorem gQ{t:Nat}{T:dZ P}{d:TypeDesc}(h:cZ tb t=some T)(hd:T.d=d):P.underlying t=some d:=by subst hd;exact ie h
structure Vw (L:SS)(ef:Ef):Prop where
 ok:∀(X:Nat->Prop) (w0:World) (H0:Bool->Hp) (ν:Nu) (oF:OF) (e:Env) (w:World),(∀i ob,aW L.bL i=some ob->oF i=some ob)->(∀k,L.nx<=k->k<L.nx+ef.n->ν k=none)->de X w0 H0 ν oF w->dO ν (HF X w0 H0 ν oF w) (aW L.cv) e->
  ∃ν',jr L.nx ef.n ν ν'/\de X w0 H0 ν' (bS ef.up oF) w/\(∀κ,Le (HF X w0 H0 ν oF w κ) (HF X w0 H0 ν' (bS ef.up oF) w κ))/\dO ν' (HF X w0 H0 ν' (bS ef.up oF) w) (aW ef.sl) e
def Ef.comp(a b:Ef):Ef:=⟨a.n+b.n,b.up++a.up,b.sl++a.sl⟩
theorem pP{α:Type 1}:∀{l r:List (Nat×Option α)} {f:Nat->Option α},bS (l++r) f=bS l (bS r f)
 |[],_,_=>rfl
 |(d,s)::l,r,f=>by funext t;show(bif _ then _ else bS (l++r) f t)=(bif _ then _ else bS l (bS r f) t);rw[pP]
theorem ON{α:Type 1}{l:List (Nat×Option α)}{f g:Nat->Option α}(h:∀i x,f i=some x->g i=some x):∀i x,bS l f i=some x->bS l g i=some x:=by
 intro i x hx;cases hm:cI i (l.map (·.1))with
 |true=>rw[<-hx];exact rM hm
 |false=>rw[kJ hm]at hx⊢;exact h i x hx
theorem po{a:Ef}(v:Vw L a)(h:cJ tb o (L.mJ a) λef sv=>K (a.comp ef) sv):cJ tb o L K:=by
 obtain⟨ef,sv,hl,hk⟩:=h.ok;refine⟨a.comp ef,sv,⟨λX w0 H0 ν oF e w ho hn hS hs=>?_⟩,hk⟩;obtain⟨ν1,g1,g2,g3,g4⟩:=v.ok X w0 H0 ν oF e w ho (λk h1 h2=>hn k h1 (by show k<L.nx+(a.n+ef.n);omega)) hS hs;have hle:=g1.le (λk h1 h2=>hn k h1 (by show k<L.nx+(a.n+ef.n);omega));refine(hl.ok X w0 H0 ν1 (bS a.up oF) e w (by rw[pR];exact ON ho) (λk h1 h2=>?_) g2 (by rw[um];exact(hs.mono hle g3).ap g4)).mono ?_
 . have h1:L.nx+a.n<=k:=h1;have h2:k<L.nx+a.n+ef.n:=h2;rw[g1 k (.inr h1)];exact hn k (by omega) (by show k<L.nx+(a.n+ef.n);omega)
 . rintro v w' ⟨ν2,q1,q2,q3,q4,q5⟩;rw[<-pP]at q2 q3 q4 q5;have hle2:fu ν1 ν2:=q1.le (λk h1 h2=>by
    have h1:L.nx+a.n<=k:=h1;have h2:k<L.nx+a.n+ef.n:=h2;rw[g1 k (.inr h1)];exact hn k (by omega) (by show k<L.nx+(a.n+ef.n);omega))
   refine⟨ν2,λk hk=>?_,q2,λκ=>Le.trans (g3 κ) (q3 κ),?_,q5⟩
   . rw[q1 k (by have:k<L.nx\/L.nx+(a.n+ef.n)<=k:=hk;show k<L.nx+a.n\/L.nx+a.n+ef.n<=k;omega),g1 k (by have:k<L.nx\/L.nx+(a.n+ef.n)<=k:=hk;omega)]
   . have e1:aW (a.comp ef).sl=bS ef.sl (aW a.sl):=by funext t;exact re _ _ _
     rw[e1];exact(g4.mono hle2 q3).ap q4
theorem Vw.st{F:Fx}{a:Ef}(v:Vw L a){e:Env}{w:World}(h:St F L e w):St F (L.mJ a) e w:=by
 obtain⟨ν,h1,h2,h3,h4,h5⟩:=h;obtain⟨ν',g1,g2,g3,g4⟩:=v.ok F.X F.w0 F.H0 ν (aW L.bL) e w (λ_ _ h=>h) (λk hk _=>h1 k hk) h4 h5;refine⟨ν',λk hk=>?_,?_,λk hk=>?_,by rw[pR];exact g2,?_⟩
 . have hk:L.nx+a.n<=k:=hk;rw[g1 k (.inr hk)];exact h1 k (by omega)
 . show F.m<=L.nx+a.n;omega
 . rw[g1 k (.inl (by omega))];exact h3 k hk
 . rw[pR,um];exact(h5.mono (g1.le λk hk _=>h1 k hk) g3).ap g4
theorem ps{F:Fx}{a:Ef}{k:List It}(v:Vw L a)(nx:jV tb F k (L.mJ a)):jV tb F k L:=⟨λe w hs=>nx.ok e w (v.st hs)⟩
theorem pk{F:Fx}{a:Ef}{J:Env->World->Prop}(v:Vw L a)(nx:wX tb F J (L.mJ a)):wX tb F J L:=⟨λe w hs=>nx.ok e w (v.st hs)⟩
theorem pr{F:Fx}{a:Ef}(v:Vw L a)(nx:vP tb F (L.mJ a)):vP tb F L:=⟨λe w hs=>nx.ok e w (v.st hs)⟩
theorem Hq{w:World}:Go.X.Loc [] [] w w [none] [.cells []]:=(oY (w:=w)).Ta.1
theorem nl{α:Type}(t:Nat)(rp:cx α)(ht:aW L.cv t=some (.s (.lf (.v (.slice none 0 0)))):=by rfl)(hz:(rp.sz==0)=false:=by rfl):Vw L ⟨1,[(L.nx,some (.row rp true []))],[(t,some (.s (.lf (.own L.nx))))]⟩:=by
 refine⟨λX w0 H0 ν oF e w ho hn hS hs=>?_⟩;have hx:=hn L.nx (bQ _) (by show L.nx<L.nx+1;omega);obtain⟨g1,g2⟩:=hS.new (ob:=.row rp true []) (c:=0) (n:=0) rfl hx Hq (λH' _=>⟨rfl,hz,[],[],rfl,rfl,by simp⟩);refine⟨_,ri,g1,g2,λt' sv h=>?_⟩;have h:(bif Nat.beq t' t then some (Sv.s (.lf (.own L.nx)))else none)=some sv:=h;cases hb:Nat.beq t' t with
 |false=>rw[hb]at h;cases h
 |true=>
  rw[hb]at h;cases h;have:=ee hb;subst this;exact⟨none,0,0,ng,(hs _ _ ht).1⟩
theorem u6{α:Type}{vs:List α}{off:Nat}{y:α}(h:vs[off]?=some y):vs.set off y=vs:=by
 apply sJ;intro q;rw[uR];split
 . rename_i hq;subst hq;obtain⟨hlt,hv⟩:=eN.1 h;rw[bA hlt,h]
 . rfl
theorem de.review{X:Nat->Prop}{w0 w:World}{H0:Bool->Hp}{ν:Nu}{oF:OF}(hS:de X w0 H0 ν oF w){up:List (Nat×Option Ob)}(h:∀i o,(i,o)∈up->∃ob ob',o=some ob'/\oF i=some ob/\ob'.tid=ob.tid/\∀c n k,ob.R ν (HF X w0 H0 ν oF w) c n k->ob'.R ν (HF X w0 H0 ν oF w) c n k):
 de X w0 H0 ν (bS up oF) w/\HF X w0 H0 ν (bS up oF) w=HF X w0 H0 ν oF w:=by
 have ow:∀b,Ow ν (bS up oF) b↔Ow ν oF b:=by
  intro b;constructor
  . rintro⟨i,ob,g1,g2⟩;rcases kd g1 with g|⟨g,_⟩
    . obtain⟨ob1,ob2,q1,q2,qt,_⟩:=h _ _ g;cases q1;exact⟨i,ob1,q2,by unfold gA iL at g2⊢;rw[<-qt];exact g2⟩
    . exact⟨i,ob,g,g2⟩
  . rintro⟨i,ob,g1,g2⟩;cases hm:cI i (up.map (·.1))with
    |false=>exact⟨i,ob,by rw[kJ hm];exact g1,g2⟩
    |true=>
     cases ha:bS up oF i with
     |some ob'=>
      refine⟨i,ob',ha,?_⟩;rcases kd ha with g|⟨g,_⟩
      . obtain⟨ob1,ob2,q1,q2,qt,_⟩:=h _ _ g;cases q1;rw[g1]at q2;cases q2;unfold gA iL at g2⊢;rw[qt];exact g2
      . rw[g1]at g;cases g;exact g2
     |none=>
      exfalso;have key:∀{l:List (Nat×Option Ob)},(∀x∈l,x∈up)->cI i (l.map (·.1))=true->bS l oF i≠none:=by
       intro l
       induction l with
       |nil=>intro _ h;cases h
       |cons y r ih=>
        obtain⟨d,s⟩:=y;intro hsub hm hn;have hn:(bif Nat.beq i d then s else bS r oF i)=none:=hn;cases hb:Nat.beq i d with
        |true=>
         rw[hb]at hn;obtain⟨ob1,ob2,q1,_⟩:=h d s (hsub _ cU);rw[q1]at hn;cases hn
        |false=>
         rw[hb]at hn;simp only[kZ,cI,hb,Bool.false_or]at hm;exact ih (λx hx=>hsub x (cP _ hx)) hm hn
      exact key (λ_ h=>h) hm ha
 have e:HF X w0 H0 ν (bS up oF) w=HF X w0 H0 ν oF w:=by
  funext κ b;unfold HF;by_cases hb:Ow ν oF b
  . simp only[(ow b).2 hb,hb,if_true]
  . have:¬Ow ν (bS up oF) b:=λh=>hb ((ow b).1 h);simp only[this,hb,if_false]
 have at':∀i ob,bS up oF i=some ob->∃ob0,oF i=some ob0/\ob.tid=ob0.tid/\∀c n k,ob0.R ν (HF X w0 H0 ν oF w) c n k->ob.R ν (HF X w0 H0 ν oF w) c n k:=by
  intro i ob g;rcases kd g with g|⟨g,_⟩
  . obtain⟨ob1,ob2,q1,q2,qt,q3⟩:=h _ _ g;cases q1;exact⟨ob1,q2,qt,q3⟩
  . exact⟨ob,g,rfl,λ_ _ _ h=>h⟩
 have owt:∀{i:Nat} {a b:Ob} {q:Nat},a.tid=b.tid->gA ν i a q->gA ν i b q:=λht h=>by unfold gA iL at h⊢;rw[<-ht];exact h
 refine⟨⟨hS.os,hS.tape,hS.output,hS.size,hS.keep,hS.h0,hS.oy,hS.qG,λi ob g=>?_,λi ob b g hb=>?_,λi j oi oj b g g' h1 h2=>?_,λi ob g=>?_⟩,e⟩
 . obtain⟨ob0,q1,_,q2⟩:=at' i ob g;obtain⟨b,c,n,k,k1,k2,k3⟩:=hS.dD i ob0 q1;exact⟨b,c,n,k,k1,k2,by rw[e];exact q2 c n k k3⟩
 . obtain⟨ob0,q1,ht,_⟩:=at' i ob g;exact hS.fresh i ob0 b q1 (owt ht hb)
 . obtain⟨o0,q1,ht,_⟩:=at' i oi g;obtain⟨o1,q2,ht',_⟩:=at' j oj g';exact hS.iq i j o0 o1 b q1 q2 (owt ht h1) (owt ht' h2)
 . obtain⟨ob0,q1,ht,_⟩:=at' i ob g;obtain⟨p1,p2,p3⟩:=hS.parts i ob0 q1;have e:iL ν i ob=iL ν i ob0:=by unfold iL;rw[ht]
   exact⟨λt h=>p1 t (by rw[<-e];exact h),λb t hb h=>p2 b t hb (by rw[<-e];exact h),λj hj=>p3 j (by rw[<-ht];exact hj)⟩
theorem nb{α:Type}(i off:Nat)(rp:cx α){l:List Lf}(hi:aW L.bL i=some (.box l):=by rfl)(hl:l[off]?=some (.v (.slice none 0 0)):=by rfl)(hne:Nat.beq i L.nx=false:=by rfl)(hz:(rp.sz==0)=false:=by rfl):Vw L ⟨1,[(i,some (.box (l.set off (.own L.nx)))),(L.nx,some (.row rp true []))],[]⟩:=by
 refine⟨λX w0 H0 ν oF e w ho hn hS hs=>?_⟩;have hx:=hn L.nx (bQ _) (by show L.nx<L.nx+1;omega);obtain⟨g1,g2⟩:=hS.new (ob:=.row rp true []) (c:=0) (n:=0) rfl hx Hq (λH' _=>⟨rfl,hz,[],[],rfl,rfl,by simp⟩);have hoi:bS [(L.nx,some (Ob.row rp true []))] oF i=some (.box l):=by
  show(bif Nat.beq i L.nx then _ else oF i)=_;rw[hne];exact ho _ _ hi
 obtain⟨k1,k2⟩:=g1.review (up:=[(i,some (.box (l.set off (.own L.nx))))]) (λj o hj=>by
  simp only[df,oE]at hj;obtain⟨rfl,rfl⟩:=hj;refine⟨.box l,_,rfl,hoi,rfl,?_⟩;rintro c n k ⟨vs,q1,q2⟩;obtain⟨y,q3,q4⟩:=q2.get hl;have:=q2.set (i:=off) (x:=.own L.nx) (y:=y) ⟨none,0,0,ng,q4.1⟩;rw[u6 q3]at this;exact⟨vs,q1,this⟩)
 refine⟨_,ri,k1,λκ=>?_,n9⟩;have:HF X w0 H0 (jE ν L.nx (none,0,0)) (bS [(i,some (Ob.box (l.set off (.own L.nx)))),(L.nx,some (.row rp true []))] oF) w=HF X w0 H0 (jE ν L.nx (none,0,0)) (bS [(L.nx,some (.row rp true []))] oF) w:=k2;rw[this];exact g2 κ
def p6(j:Nat)(y:Lf):Lf->Lf
 |.own i=>bif Nat.beq i j then y else .own i
 |l=>l
def fz1(j:Nat)(y:Lf):S1->S1
 |.lf l=>.lf (p6 j y l)
 |.agg l=>.agg (l.map (p6 j y))
def fzV(j:Nat)(y:Lf):Sv->Sv
 |.s x=>.s (fz1 j y x)
 |.fX l=>.fX (l.map (fz1 j y))
 |.pr κ c off=>.pr κ (c.map (p6 j y)) off
 |.pw i r xs x ix off=>.pw i r xs x ix off
 |.fc f ps=>.fc f ps
 |.pa i r κ xs x ix off=>.pa i r κ xs x ix off
def tD(j:Nat)(y:Lf)(f:SF):List (Nat×Option Sv)->List (Nat×Option Sv)
 |[]=>[]
 |(t,_)::r=>match f t with
  |some s=>bif cI j (GA (some s))then(t,some (fzV j y s))::tD j y f r else tD j y f r
  |none=>tD j y f r
def uJ(j:Nat)(y:Lf)(f:OF):List (Nat×Option Ob)->List (Nat×Option Ob)
 |[]=>[]
 |(i,_)::r=>match f i with
  |some (.box l)=>bif cI j (wh l)then(i,some (.box (l.map (p6 j y))))::uJ j y f r else uJ j y f r
  |_=>uJ j y f r
section
variable {ν:Nu} {H:Bool->Hp} {j:Nat} {y:Lf}
theorem KA(h:∀a,(Lf.own j).R ν H a->y.R ν H a){l:Lf}{a:Value}(hr:l.R ν H a):(p6 j y l).R ν H a:=by
 cases l with
 |own i=>
  show Lf.R ν H (bif Nat.beq i j then y else .own i) a;cases hb:Nat.beq i j with
  |true=>have:=ee hb;subst this;exact h a hr
  |false=>exact hr
 |_=>exact hr
theorem yx(h:∀a,(Lf.own j).R ν H a->y.R ν H a):∀{l:List Lf} {a:List Value},dz ν H l a->dz ν H (l.map (p6 j y)) a
 |[],_,hr=>hr
 |_::_,_,⟨a,az,h1,h2,h3⟩=>⟨a,az,h1,KA h h2,yx h h3⟩
theorem No(h:∀a,(Lf.own j).R ν H a->y.R ν H a):∀{l:S1} {a:Value},l.R ν H a->(fz1 j y l).R ν H a
 |.lf _,_,hr=>KA h hr
 |.agg _,_,⟨vs,h1,h2⟩=>⟨vs,h1,yx h h2⟩
theorem OT(h:∀a,(Lf.own j).R ν H a->y.R ν H a):∀{l:List S1} {a:List Value},eD ν H l a->eD ν H (l.map (fz1 j y)) a
 |[],_,hr=>hr
 |_::_,_,⟨a,az,h1,h2,h3⟩=>⟨a,az,h1,No h h2,OT h h3⟩
theorem Ld(h:∀a,(Lf.own j).R ν H a->y.R ν H a):∀{l:Sv} {a:Value},l.R ν H a->(fzV j y l).R ν H a
 |.s _,_,hr=>No h hr
 |.fX _,_,⟨vs,h1,h2⟩=>⟨vs,h1,OT h h2⟩
 |.pr κ _ _,_,⟨b,o,vs,h1,h2,h3⟩=>⟨b,o,vs,h1,h2,yx h h3⟩
 |.pw ..,_,hr=>hr
 |.fc ..,_,hr=>hr
 |.pa ..,_,hr=>hr
theorem Ce(h:∀a,(Lf.own j).R ν H a->y.R ν H a){f:SF}{e:Env}(hs:dO ν H f e):∀{l:List (Nat×Option Sv)},dO ν H (aW (tD j y f l)) e
 |[]=>λt sv ht=>by cases ht
 |(t,_)::r=>by
  simp only[tD];split
  . rename_i s hf;cases hm:cI j (GA (some s))with
    |false=>exact Ce h hs
    |true=>
     intro t' sv ht;have ht:(bif Nat.beq t' t then some (fzV j y s)else aW (tD j y f r) t')=some sv:=ht;cases hb:Nat.beq t' t with
     |true=>rw[hb]at ht;cases ht;have:=ee hb;subst this;exact Ld h (hs _ _ hf)
     |false=>rw[hb]at ht;exact Ce h hs (l:=r) t' sv ht
  . exact Ce h hs
theorem B7{f:OF}:∀{l:List (Nat×Option Ob)} {i:Nat} {o:Option Ob},(i,o)∈uJ j y f l->∃c,f i=some (.box c)/\o=some (.box (c.map (p6 j y)))
 |[],_,_,h=>by cases h
 |(k,_)::r,i,o,h=>by
  simp only[uJ]at h;split at h
  . rename_i l hl;cases hm:cI j (wh l)with
    |false=>rw[hm]at h;exact B7 h
    |true=>
     rw[hm]at h;rcases eJ.1 h with e|e
     . cases e;exact⟨l,hl,rfl⟩
     . exact B7 e
  . exact B7 h
end
def dls{α:Type 1}:List Nat->List (Nat×Option α)
 |[]=>[]
 |i::r=>(i,none)::dls r
def fzB(j:Nat)(y:Lf):Option Ob->Option Ob
 |some (.box l)=>some (.box (l.map (p6 j y)))
 |o=>o
def fzS(j:Nat)(y:Lf):Option Sv->Option Sv
 |some s=>some (fzV j y s)
 |none=>none
def DI(j:Nat)(y:Lf)(f:OF):List Nat->List (Nat×Option Ob)
 |[]=>[]
 |i::r=>(i,fzB j y (f i))::DI j y f r
def DE(j:Nat)(y:Lf)(f:SF):List Nat->List (Nat×Option Sv)
 |[]=>[]
 |t::r=>(t,fzS j y (f t))::DE j y f r
def B6(f:OF):List Nat->Bool
 |[]=>true
 |i::r=>(match f i with|some (.box _)=>true|_=>false)&&B6 f r
theorem Pm{j:Nat}{y:Lf}{f:OF}:∀{l:List Nat} {i:Nat} {o:Option Ob},B6 f l=true->(i,o)∈DI j y f l->∃c,f i=some (.box c)/\o=some (.box (c.map (p6 j y)))
 |[],_,_,_,h=>by cases h
 |k::r,i,o,hb,h=>by
  simp only[B6,gz]at hb;rcases eJ.1 h with e|e
  . cases e;have h1:=hb.1;split at h1
    . rename_i c hc;exact⟨c,hc,by rw[hc];rfl⟩
    . cases h1
  . exact Pm hb.2 e
theorem Lg{ν:Nu}{H:Bool->Hp}{j:Nat}{y:Lf}(h:∀a,(Lf.own j).R ν H a->y.R ν H a){f:SF}{e:Env}(hs:dO ν H f e):∀{l:List Nat},dO ν H (aW (DE j y f l)) e
 |[]=>λt sv ht=>by cases ht
 |t::r=>by
  intro t' sv ht;have ht:(bif Nat.beq t' t then fzS j y (f t)else aW (DE j y f r) t')=some sv:=ht;cases hb:Nat.beq t' t with
  |true=>
   rw[hb]at ht;have:=ee hb;subst this;cases hf:f t' with
   |none=>rw[hf]at ht;cases ht
   |some s=>rw[hf]at ht;cases ht;exact Ld h (hs _ _ hf)
  |false=>rw[hb]at ht;exact Lg h hs (l:=r) t' sv ht
theorem jG{α:Type}(j:Nat)(ts is:List Nat){rp:cx α}{κ:Bool}{xs:List α}(hj:aW L.bL j=some (.row rp κ xs):=by rfl):
 Vw L ⟨0,uJ j (.ro rp κ xs) (aW L.bL) (dls is)++[(j,none)],tD j (.ro rp κ xs) (aW L.cv) (dls ts)⟩:=by
 refine⟨λX w0 H0 ν oF e w ho hn hS hs=>?_⟩;obtain⟨b,c,n,kk,q1,q2,e1,e0,cs,sp,e2,e3,e4⟩:=hS.dD j _ (ho j _ hj);subst e2;obtain⟨g1,g2⟩:=hS.go (T:=[j]) (O:=[b]) (new:=[]) (oF':=bS [(j,none)] oF) (ν':=ν) (λb' hb=>by simp only[df]at hb;exact⟨j,by simp,_,ho j _ hj,by rw[eV q1,hb]⟩) ((jT q2).drop 0).1 (fu.refl ν) rfl (by simp)
  (λi o h=>by
   rcases kd h with h|⟨h,h2⟩
   . simp at h
   . refine .inl ⟨h,λhm=>?_⟩;simp only[df]at hm;subst hm;simp[cI]at h2)
  (λ_ x hx=>by cases hx) (λx hx=>by cases hx) ⟨rfl,rfl⟩
 have hy:∀a,(Lf.own j).R ν (HF X w0 H0 ν (bS [(j,none)] oF) w) a->(Lf.ro rp κ xs).R ν (HF X w0 H0 ν (bS [(j,none)] oF) w) a:=by
  rintro a ⟨b',c',n',r1,rfl⟩;rw[q1]at r1;cases r1;cases b with
  |none=>exact rV q2 e3 e0
  |some b=>
   have hno:¬Ow ν (bS [(j,none)] oF) b:=by
    rintro⟨i,ob,r2,r3⟩;rcases kd r2 with h|⟨h,h2⟩
    . simp at h
    . have:=hS.iq i j ob _ b h (ho j _ hj) r3 (.inl (eV q1));subst this;simp[cI]at h2
   exact xX (pT q2 λq hq=>mq (hS.fresh j _ b (ho j _ hj) (.inl (eV q1))) hno (vT q2 hq)) (e3.mono (g2 κ)) e0 rfl e1 e4
 obtain⟨k1,k2⟩:=g1.review (up:=uJ j (.ro rp κ xs) (aW L.bL) (dls is)) (λi o h=>by
  obtain⟨l,r1,r2⟩:=B7 h;refine⟨.box l,_,r2,?_,rfl,?_⟩
  . have hne:i≠j:=by rintro rfl;rw[hj]at r1;cases r1
    show(bif Nat.beq i j then none else oF i)=_;have:Nat.beq i j=false:=by
     cases hb:Nat.beq i j with
     |false=>rfl
     |true=>exact bX (ee hb) hne
    rw[this];exact ho i _ r1
  . rintro c n k ⟨vs,r3,r4⟩;exact⟨vs,r3,yx hy r4⟩)
 rw[<-pP]at k1 k2;refine⟨ν,jr.refl,k1,λκ=>by rw[k2];exact g2 κ,?_⟩;rw[k2];exact Ce hy (hs.mono (fu.refl ν) g2)
theorem dM{α:Type}(j:Nat)(ts is:List Nat){rp:cx α}{κ:Bool}{xs:List α}(hj:aW L.bL j=some (.row rp κ xs):=by rfl)(hb:B6 (aW L.bL) is=true:=by rfl):
 Vw L ⟨0,DI j (.ro rp κ xs) (aW L.bL) is++[(j,none)],DE j (.ro rp κ xs) (aW L.cv) ts⟩:=by
 refine⟨λX w0 H0 ν oF e w ho hn hS hs=>?_⟩;obtain⟨b,c,n,kk,q1,q2,e1,e0,cs,sp,e2,e3,e4⟩:=hS.dD j _ (ho j _ hj);subst e2;obtain⟨g1,g2⟩:=hS.go (T:=[j]) (O:=[b]) (new:=[]) (oF':=bS [(j,none)] oF) (ν':=ν) (λb' hb=>by simp only[df]at hb;exact⟨j,by simp,_,ho j _ hj,by rw[eV q1,hb]⟩) ((jT q2).drop 0).1 (fu.refl ν) rfl (by simp)
  (λi o h=>by
   rcases kd h with h|⟨h,h2⟩
   . simp at h
   . refine .inl ⟨h,λhm=>?_⟩;simp only[df]at hm;subst hm;simp[cI]at h2)
  (λ_ x hx=>by cases hx) (λx hx=>by cases hx) ⟨rfl,rfl⟩
 have hy:∀a,(Lf.own j).R ν (HF X w0 H0 ν (bS [(j,none)] oF) w) a->(Lf.ro rp κ xs).R ν (HF X w0 H0 ν (bS [(j,none)] oF) w) a:=by
  rintro a ⟨b',c',n',r1,rfl⟩;rw[q1]at r1;cases r1;cases b with
  |none=>exact rV q2 e3 e0
  |some b=>
   have hno:¬Ow ν (bS [(j,none)] oF) b:=by
    rintro⟨i,ob,r2,r3⟩;rcases kd r2 with h|⟨h,h2⟩
    . simp at h
    . have:=hS.iq i j ob _ b h (ho j _ hj) r3 (.inl (eV q1));subst this;simp[cI]at h2
   exact xX (pT q2 λq hq=>mq (hS.fresh j _ b (ho j _ hj) (.inl (eV q1))) hno (vT q2 hq)) (e3.mono (g2 κ)) e0 rfl e1 e4
 obtain⟨k1,k2⟩:=g1.review (up:=DI j (.ro rp κ xs) (aW L.bL) is) (λi o h=>by
  obtain⟨l,r1,r2⟩:=Pm hb h;refine⟨.box l,_,r2,?_,rfl,?_⟩
  . have hne:i≠j:=by rintro rfl;rw[hj]at r1;cases r1
    show(bif Nat.beq i j then none else oF i)=_;have:Nat.beq i j=false:=by
     cases hb:Nat.beq i j with
     |false=>rfl
     |true=>exact bX (ee hb) hne
    rw[this];exact ho i _ r1
  . rintro c n k ⟨vs,r3,r4⟩;exact⟨vs,r3,yx hy r4⟩)
 rw[<-pP]at k1 k2;refine⟨ν,jr.refl,k1,λκ=>by rw[k2];exact g2 κ,?_⟩;rw[k2];exact Lg hy (hs.mono (fu.refl ν) g2)
end
open Go Go.RowKit Go.X
variable [fy]
def wkL:Lf->Lf->Option Lf
 |.ro r κ xs,.ro _ κ' _=>some (.ro r (wk κ κ') xs)
 |.cp r κ xs,.ro _ κ' _=>some (.ro r (wk κ κ') xs)
 |.v (.slice none 0 0),.ro r κ _=>some (.ro r κ [])
 |.v x,_=>some (.v x)
 |.pd q,_=>some (.pd q)
 |_,_=>none
def qI:List Lf->List Lf->Option (List Lf)
 |[],[]=>some []
 |a::r,b::s=>match wkL a b with
  |some x=>match qI r s with
   |some y=>some (x::y)
   |none=>none
  |none=>none
 |_,_=>none
section
variable {ν ν':Nu} {H:Bool->Hp}
theorem TH(hw:Le (H true) (H false)){x y l:Lf}{a:Value}(h:wkL x y=some l)(hr:x.R ν H a):l.R ν' H a:=by
 unfold wkL at h;split at h
 . cases h;exact Rs.mono hr (oA hw (λ_=>Le.refl _) _ _)
 . cases h;exact Rs.mono hr.1 (oA hw (λ_=>Le.refl _) _ _)
 . cases h;obtain⟨h1,_⟩:=hr;rw[h1];exact Rs.nil
 . cases h;exact hr
 . cases h;exact hr
 . cases h
theorem tV(hw:Le (H true) (H false)):∀{x y l:List Lf} {a:List Value},qI x y=some l->dz ν H x a->dz ν' H l a
 |[],[],l,a,h,hr=>by cases h;exact hr
 |x::r,y::s,l,a,h,hr=>by
  simp only[qI]at h;split at h
  . rename_i u hu;split at h
    . rename_i z hz;cases h;obtain⟨a,az,h1,h2,h3⟩:=hr;exact⟨a,az,h1,TH hw hu h2,tV hw hz h3⟩
    . cases h
  . cases h
 |[],_::_,_,_,h,_=>by cases h
 |_::_,[],_,_,h,_=>by cases h
end
def cA:Bool->Bool->Bool
 |false,true=>false
 |_,_=>true
theorem u5{H:Bool->Hp}(hw:Le (H true) (H false)):∀{κ κ':Bool},cA κ κ'=true->Le (H κ) (H κ')
 |true,true,_=>Le.refl _
 |true,false,_=>hw
 |false,false,_=>Le.refl _
 |false,true,h=>by cases h
def vH{α:Type}(rp:cx α):Prop:=∀(H H':Hp) (vs:List Value) (x:α),rp.R H vs x->rp.R H' vs x
theorem bq{α:Type}{g:Option α}{a:α}(h:g=some a):g.bind some=some a:=by rw[h];rfl
section
variable {P:Program} {tb:List (dZ P)} {L:SS} {o:Oper} {K:Ef->Option Sv->Prop} {β:Type} {res:β} {t u el:TypeId} {x y:Operand} {T E:dZ P} {kk:IntKind}
theorem bP{α:Type}{rp:cx α}[aO rp]{κ:Bool}{xs:List α}{i:Int}{f:α->Option β}(h:(idx xs i).bind f=some res)(nx:∀a,f a=some res->K .z (some (.pr κ (aO.cl rp κ a) 0)))
 (ho:o.op=.indexAddr t x y:=by rfl)(hx:cr L x=some (.s (.lf (.ro rp κ xs))):=by rfl)(hy:lv (cr L y)=some (.int kk i):=by rfl)(hT:cZ tb t=some T:=by rfl)(hd:T.d=.slice el:=by rfl)(hE:cZ tb el=some E:=by rfl)(hz:E.sz=rp.sz:=by rfl):cJ tb o L K:=by
 obtain⟨a,q1,q2⟩:=bind_some h;obtain⟨n,q3,q4⟩:=uL q1;refine cJ.of (LT.look λν H e w hv ht hO hS=>?_) (nx a q2);rw[ho];have h1:Rs rp (H κ) (ev e x) xs:=dH hS hx;obtain⟨b,o',cap,vs,g1,g2,g3,g4⟩:=h1.get q4;exact aF.JH (gQ hT hd) (jk hE hz) rfl g1 (fe hS hy).1 q3 q4 rfl ⟨rfl,b,o'+n*rp.sz,vs,rfl,g3,aO.op g4⟩
theorem wo{α:Type}{rp:cx α}{κ:Bool}{xs:List α}{j:Nat}{ν:Nu}{H:Bool->Hp}{w:World}(hO:∀i ob,aW L.bL i=some ob->∃b c n k,ν i=some (b,c,n)/\dR w b k/\ob.R ν H c n k)(hj:aW L.bL j=some (.row rp κ xs)):
 ∃b c cs sp,ν j=some (b,c,xs.length)/\dR w b (.cells ([]++(cs++sp)))/\cz rp (H κ) cs xs/\(cs++sp).length=c*rp.sz/\(rp.sz==0)=false:=by
 obtain⟨b,c,n,k,q1,q2,e1,e0,cs,sp,rfl,e3,e4⟩:=hO j _ hj;subst e1;exact⟨b,c,cs,sp,q1,q2,e3,e4,e0⟩
theorem CF{α:Type}{rp:cx α}{xs:List α}{w:World}{b:Option Nat}{cs sp:List Value}{H:Hp}{n:Nat}{a:α}(hc:dR w b (.cells ([]++(cs++sp))))(hE:cz rp H cs xs)(hz:(rp.sz==0)=false)(hn:xs[n]?=some a):∃b',b=some b':=by
  have hpos : 0 < rp.sz := by have : ¬ rp.sz = 0 := by simpa using hz
                              omega
  cases b with
  |some b=>exact⟨b,rfl⟩
  |none=>
    have hc:[]++(cs++sp)=[]:=hc;have:=yL (pre:=[]) (sp:=sp) hE hn hpos;rw[hc]at this;simp at this
theorem cC{α:Type}{rp:cx α}{κ:Bool}{xs:List α}{i:Int}{f:α->Option β}{j:Nat}(h:(idx xs i).bind f=some res)(nx:∀a,f a=some res->K .z (some (.pw j rp xs a i 0)))
 (ho:o.op=.indexAddr t x y:=by rfl)(hx:cr L x=some (.s (.lf (.own j))):=by rfl)(hj:aW L.bL j=some (.row rp κ xs):=by rfl)(hy:lv (cr L y)=some (.int kk i):=by rfl)(hT:cZ tb t=some T:=by rfl)(hd:T.d=.slice el:=by rfl)(hE:cZ tb el=some E:=by rfl)(hz:E.sz=rp.sz:=by rfl):cJ tb o L K:=by
 obtain⟨a,q1,q2⟩:=bind_some h;obtain⟨n,q3,q4⟩:=uL q1;refine cJ.of (LT.look λν H e w hv ht hO hS=>?_) (nx a q2);rw[ho];obtain⟨b,c,cs,sp,g1,g4,g5,g6,g7⟩:=wo hO hj;obtain⟨b',c',n',m1,m2⟩:(Lf.own j).R ν H (ev e x):=dH hS hx;rw[g1]at m1;cases m1;obtain⟨b,rfl⟩:=CF g4 g5 g7 q4;exact aF.EY (r:=rp) (q:=n*rp.sz+0) (gQ hT hd) (jk hE hz) m2 rfl (fe hS hy).1 q3 (eN.1 q4).1 (by omega) ⟨rfl,b,_,n,g1,q3,q4,rfl⟩
theorem du{α:Type}{rp:cx α}[aO rp]{κ:Bool}{xs:List α}{a:α}{i:Int}{j off:Nat}{s:S1}(nx:K .z (some (.s s)))
 (ho:o.op=.load t x:=by rfl)(hx:cr L x=some (.pw j rp xs a i off):=by rfl)(hj:aW L.bL j=some (.row rp κ xs):=by rfl)(hT:cZ tb t=some T:=by rfl)(hl:tC (js T.d) T.sz (aO.cl rp κ a) off=some s:=by rfl):cJ tb o L K:=by
 refine cJ.of (LT.look λν H e w hv ht hO hS=>?_) nx;rw[ho];obtain⟨b,c,cs,sp,g1,g4,g5,g6,g7⟩:=wo hO hj;obtain⟨b',c',n',m1,m2,m3,m4⟩:=dH hS hx;rw[g1]at m1;cases m1;obtain⟨vs,v1,v2,v3⟩:=HE (pre:=[]) (sp:=sp) g5 m3;simp only[dY,ff]at v3;rcases vq hl (aO.op v2:dz ν H _ vs)with⟨h1,v,h2,h3⟩|⟨h1,us,h2,h3,h4⟩
 . have hp:=AG (us:=[v]) (q:=off) v3 (by
    rw[lJ];obtain⟨hlt,hv⟩:=eN.1 h2;rw[gn hlt,hv];rfl)
   exact aF.NG (ie hT) h1 m4 g4 hp ⟨rfl,h3⟩
 . exact aF.Iq (ie hT) h1 (gJ hT) m4 g4 h2 (AG v3 h3) ⟨rfl,h4⟩
theorem ej{α:Type}(κn:Bool){rp:cx α}[aO rp]{κ:Bool}{xs xs0:List α}{a z:α}{i:Int}{f:List α->Option β}{j:Nat}{s:S1}(h:(dw xs i z).bind f=some res)(nx:∀Y,f Y=some res->K ⟨0,[(j,some (.row rp κn Y))],[]⟩ none)
 (ho:o.op=.store t x y:=by rfl)(hx:cr L x=some (.pw j rp xs0 a i 0):=by rfl)(hj:aW L.bL j=some (.row rp κ xs):=by rfl)(hT:cZ tb t=some T:=by rfl)(hz:T.sz=rp.sz:=by rfl)
 (hy:cr L y=some (.s s):=by rfl)(hw:qI (l9 s) (aO.cl rp κn z)=some (aO.cl rp κn z):=by rfl)(hk:cA κ κn=true:=by rfl):cJ tb o L K:=by
 obtain⟨Y,q1,q2⟩:=bind_some h;obtain⟨n,q3,q4,q5⟩:=Eo q1;refine cJ.of (LT.md hj λν H e w b c n0 k0 hv ht hO hS p1 p2 p3=>?_) (nx Y q2);rw[ho];obtain⟨e1,g7,cs,sp,rfl,g5,g6⟩:=p3;obtain⟨b',c',n',m1,m2,m3,m4⟩:=dH hS hx;rw[p1]at m1;cases m1;obtain rfl:n'=n:=PQ.1 (m2.symm.trans q3);obtain⟨vs,v1,v2⟩:=uo (dH hS hy);have v3:=tV (ν':=ν) ht hw v2;refine aF.Ug (pre:=[]) (H:=H κn) (jk hT hz) m4 rfl v1 (aO.co v3) (jT p2) 0 rfl rfl (g5.mono (u5 ht hk)) q4 (by simp) q5 ?_;intro w' cs' hL' hst hE' hlen;refine⟨_,hL',λH' hH=>⟨by rw[e1,q5,gI],g7,cs',sp,rfl,hE'.mono (hH κn),by rw[dL]at g6⊢;rw[hlen];exact g6⟩⟩
theorem stP{α:Type}{rp:cx α}[aO rp]{κ:Bool}{xs xs0:List α}{a a1 z:α}{i:Int}{f:List α->Option β}{j off:Nat}{s:S1}(h:(dw xs i z).bind f=some res)(nx:∀Y,f Y=some res->K ⟨0,[(j,some (.row rp κ Y))],[]⟩ none)
    (ha:idx xs i=some a1)
    (ho:o.op=.store t x y:=by rfl)(hx:cr L x=some (.pw j rp xs0 a i off):=by rfl)(hj:aW L.bL j=some (.row rp κ xs):=by rfl)(hT:cZ tb t=some T:=by rfl)
    (hy:cr L y=some (.s s):=by rfl)(hs:Nat.beq (l9 s).length T.sz=true:=by rfl)(hf:Nat.ble (off+T.sz) rp.sz=true:=by rfl)(hw:qI (wI (aO.cl rp κ a1) off (l9 s)) (aO.cl rp κ z)=some (aO.cl rp κ z):=by rfl):cJ tb o L K:=by
  obtain⟨Y,q1,q2⟩:=bind_some h;obtain⟨n,q3,q4,q5⟩:=Eo q1;obtain⟨n2,a2,a3⟩:=uL ha;obtain rfl:n2=n:=PQ.1 (a2.symm.trans q3);refine cJ.of (LT.md hj λν H e w b c n0 k0 hv ht hO hS p1 p2 p3=>?_) (nx Y q2);rw[ho];obtain⟨e1,g7,cs,sp,rfl,g5,g6⟩:=p3;obtain⟨b',c',n',m1,m2,m3,m4⟩:=dH hS hx;rw[p1]at m1;cases m1;obtain rfl:n'=n2:=PQ.1 (m2.symm.trans q3);obtain⟨us,v1,v2⟩:=uo (dH hS hy);have hsz:=ee hs;have hfit:=lM hf;obtain⟨vs,w1,w2,w3⟩:=HE (pre:=[]) (sp:=sp) g5 a3;simp only[dY,ff,jC]at w3;have hul:=v2.length;have hcl:=g5.length;have hnl:n'<xs.length:=q4;have hmul:n'*rp.sz+rp.sz<=xs.length*rp.sz:=by
    have:=qQ rp.sz (show n'+1<=xs.length from hnl);rwa[iJ,Ag]at this
  have hin:n'*rp.sz+off+us.length<=(cs++sp).length:=by
    rw[dL,hcl,hul,hsz];omega
  have v3:=tV (ν':=ν) ht hw (((aO.op w2:dz ν H _ vs)).put v2);have hput:∀(l:List Value) (p q:Nat) (us:List Value),q+us.length<=(l.drop p).length->putAt l (p+q) us=l.take p++putAt (l.drop p) q us:=by
    intro l p q us
    induction us generalizing l q with
    |nil=>intro _;simp[putAt]
    |cons u us ih=>
      intro hq;have hlp:p<=l.length:=by
        rcases cG l.length p with h|h
        . rw[D1 (DT h)]at hq;simp at hq
        . exact h
      show putAt (l.set (p+q) u) (p+q+1) us=l.take p++putAt ((l.drop p).set q u) (q+1) us;rw[show p+q+1=p+(q+1) by omega,ih (l.set (p+q) u) (q+1) (by simp at hq⊢;omega)];congr 1
      . apply sJ;intro m;simp only[xj];split
        . rw[xn (by omega)]
        . rfl
      . congr 1;rw[PR];split
        . omega
        . congr 1;omega
  refine aF.store (gJ hT) m4 rfl v1 (by rw[hul,hsz]) v2.fK (jT p2) 0 rfl rfl (by simpa using hin) λw' h1 h2=>?_;have key:putAt ([]++(cs++sp)) (n'*rp.sz+off) us=[]++(putAt cs (n'*rp.sz) (putAt vs off us)++sp):=by
    simp only[jC];have hd:n'*rp.sz<=(cs++sp).length:=by rw[dL,hcl];omega
    have hvs:(cs.drop (n'*rp.sz)).take rp.sz=vs:=by
      have:=w3;rw[w1,DU (by rw[hcl];omega),qS (by rw[xq,hcl];omega)]at this;exact this
    have hcs:cs=cs.take (n'*rp.sz)++(vs++cs.drop (n'*rp.sz+rp.sz)):=by
      conv=>lhs;rw[<-oC (n'*rp.sz) cs,<-oC rp.sz (cs.drop (n'*rp.sz)),hvs,nC]
    have pre_put:∀(us:List Value) (A B:List Value) (q:Nat),q+us.length<=B.length->putAt (A++B) (A.length+q) us=A++putAt B q us:=by
      intro us A B q hq;have:=hput (A++B) A.length q us (by rw[PS];exact hq);rw[this,List.take_left,PS]
    have post_put:∀(us:List Value) (A B:List Value) (q:Nat),q+us.length<=A.length->putAt (A++B) q us=putAt A q us++B:=by
      intro us
      induction us with
      |nil=>intro A B q _;rfl
      |cons u us ih=>
        intro A B q hq;simp only[cN]at hq;show putAt ((A++B).set q u) (q+1) us=putAt (A.set q u) (q+1) us++B;rw[List.set_append_left _ _ (by omega),ih _ _ _ (by simp;omega)]
    have plen:∀(us l:List Value) (q:Nat),(putAt l q us).length=l.length:=by
      intro us
      induction us with
      |nil=>intro l q;rfl
      |cons u us ih=>intro l q;show(putAt (l.set q u) (q+1) us).length=_;rw[ih];simp
    have hA:(cs.take (n'*rp.sz)).length=n'*rp.sz:=by rw[fm,hcl];omega
    have l1:putAt (cs++sp) (n'*rp.sz+off) us=putAt cs (n'*rp.sz+off) us++sp:=post_put us cs sp _ (by rw[hcl,hul,hsz];omega);have l2:putAt cs (n'*rp.sz+off) us=cs.take (n'*rp.sz)++(putAt vs off us++cs.drop (n'*rp.sz+rp.sz)):=by
      conv=>lhs;rw[hcs]
      have:=pre_put us (cs.take (n'*rp.sz)) (vs++cs.drop (n'*rp.sz+rp.sz)) off (by rw[dL,w1,hul,hsz];omega);rw[hA]at this;rw[this,post_put us vs _ off (by rw[w1,hul,hsz];omega)]
    have l3:putAt cs (n'*rp.sz) (putAt vs off us)=cs.take (n'*rp.sz)++(putAt vs off us++cs.drop (n'*rp.sz+rp.sz)):=by
      conv=>lhs;rw[hcs]
      have:=pre_put (putAt vs off us) (cs.take (n'*rp.sz)) (vs++cs.drop (n'*rp.sz+rp.sz)) 0 (by rw[plen,dL];omega);rw[hA,pK]at this;rw[this,post_put _ vs _ 0 (by rw[plen];omega)];congr 2;have full:∀(us l:List Value),us.length=l.length->putAt l 0 us=us:=by
        intro us l hl;have gen:∀(us A B:List Value),B.length=us.length->putAt (A++B) A.length us=A++us:=by
          intro us
          induction us with
          | nil => intro A B hB; obtain rfl : B = [] := by simpa using hB
                   rfl
          |cons u us ih=>
            intro A B hB;cases B with
            |nil=>simp at hB
            |cons b B=>
              show putAt ((A++b::B).set A.length u) (A.length+1) us=_;rw[List.set_append_right _ _ (bQ _),xm];have:=ih (A++[u]) B (by simpa using hB);simp only[dL,lJ,jS,PT]at this;exact this
        have:=gen us [] l hl.symm;simpa using this
      exact full _ _ (plen _ _ _)
    rw[l1,l2,l3]
  have h1:Go.X.Loc [some b'] [] w w' [some b'] [.cells (putAt ([]++(cs++sp)) (n'*rp.sz+off) us)]:=h1;rw[key]at h1;refine⟨_,h1,λH' hH=>⟨by rw[e1,q5,gI],g7,_,sp,rfl,?_,?_⟩⟩
  . rw[q5];exact(g5.set (aO.co v3) hnl).mono (hH κ)
  . have plen:∀(us l:List Value) (q:Nat),(putAt l q us).length=l.length:=by
      intro us
      induction us with
      |nil=>intro l q;rfl
      |cons u us ih=>intro l q;show(putAt (l.set q u) (q+1) us).length=_;rw[ih];simp
    rw[dL,plen,<-dL];exact g6
theorem cl(md:Option Bool)(is:List Nat)(nn:Nat){ρ:Type}{g:Option ρ}{f:ρ->Option β}{fid:FuncId}{args:List Operand}{ats:Array TypeId}{ls az:List S1}{ib:List Ob}{out:ρ->List (Nat×Option Ob)}{rs:ρ->List S1}
 (h:g.bind f=some res)(c:∀r,g=some r->Cx P fid az ib (out r) (rs r))(nx:∀r,f r=some res->K ⟨nn,fF md is L.nx (out r)++iN is,[]⟩ (some (qx ((rs r).map (l7 md is L.nx)))))
 (ho:o.op=.call {callee:=.value (.func fid),args:=args.toArray,argTypes:=ats}:=by rfl)(ha:oT L args=some ls:=by rfl)(hl:lh md (aW L.bL) is ls az=some az:=by rfl)(hb:jJ md (aW L.bL) is is ib=some ib:=by rfl)(hn:gE is=true:=by rfl)
 (h1:∀r,oI md (is.length+nn) (out r)=true:=by intro r;rfl)(h2:∀r,(rs r).all (qa md (is.length+nn))=true:=by intro r;rfl)(h3:∀r,gE ((out r).map (·.1))=true:=by intro r;rfl):cJ tb o L K:=by
 obtain⟨r,q1,q2⟩:=bind_some h;refine cJ.of ?_ (nx r q2);rw[ho];exact L3 md is nn (c r q1) ha hl hb hn (h1 r) (h2 r) (h3 r)
inductive wy {α:Type}(L:SS)(rp:cx α)(κs:Bool)(ys:List α):Lf->Prop
 |ro:wy L rp κs ys (.ro rp κs ys)
 |own {j:Nat} (h:aW L.bL j=some (.row rp κs ys)):wy L rp κs ys (.own j)
theorem Rs.srcH{α:Type}{r:cx α}{H:Hp}{w:World}{v:Value}{xs:List α}(hv:Le H (view [] w))(h:Rs r H v xs):∃cs,Src w v xs.length r.sz cs/\cz r H cs xs:=by
 rcases h with⟨h1,h2⟩|⟨b,o,cap,hv',hc,hxs⟩
 . subst h2;exact⟨[],⟨by simp,.inl ⟨h1,rfl⟩⟩,rfl⟩
 . obtain⟨cs,g1,g2⟩:=Rs.cells hxs;exact⟨cs,⟨g2.length,.inr ⟨b,o,cap,hv',λj u hj=>zM (A:=[]) (yf hv (g1.get j hj))⟩⟩,g2⟩
theorem EO{α:Type}{l:Lf}{rp:cx α}{κs κn:Bool}{ys:List α}{ν:Nu}{H:Bool->Hp}{w:World}{v:Value}(hv:∀κ,Le (H κ) (view [] w))(ht:Le (H true) (H false))(hO:∀i ob,aW L.bL i=some ob->∃b c n k,ν i=some (b,c,n)/\dR w b k/\ob.R ν H c n k)
 (hs:wy L rp κs ys l)(hk:cA κs κn=true\/vH rp)(hl:l.R ν H v):∃ds,Src w v ys.length rp.sz ds/\cz rp (H κn) ds ys:=by
 have fin:∀ds,cz rp (H κs) ds ys->cz rp (H κn) ds ys:=λds hE=>by
  rcases hk with hk|hk
  . exact hE.mono (u5 ht hk)
  . exact cz.GW hk hE
 cases hs with
 |ro=>
  obtain⟨ds,h1,h2⟩:=Rs.srcH (hv κs) hl;exact⟨ds,h1,fin ds h2⟩
 |own hj=>
  obtain⟨b,c,cs,sp,g1,g4,g5,g6,g7⟩:=wo hO hj;obtain⟨b',c',n',q1,rfl⟩:=hl;rw[g1]at q1;cases q1;exact⟨cs,Src.row g4 g5 g7 rfl rfl,fin cs g5⟩
theorem ei{α:Type}(κn:Bool){rp:cx α}{κ κs:Bool}{xs ys:List α}{bs:Nat}{f:List α->Option β}{a c:Operand}{j:Nat}{l:Lf}(h:(cY bs xs ys).bind f=some res)
 (nx:∀Y,f Y=some res->K ⟨1,[(L.nx,some (.row rp κn Y)),(j,none)],[]⟩ (some (.s (.lf (.own L.nx)))))
 (ho:o.op=.call {callee:=.builtin .append,args:=#[a,c],argTypes:=#[t,t]}:=by rfl) (ha:cr L a=some (.s (.lf (.own j))):=by rfl) (hj:aW L.bL j=some (.row rp κ xs):=by rfl) (hc:cr L c=some (.s (.lf l)):=by rfl)
 (hs:wy L rp κs ys l:=by first|exact .ro|exact .own rfl) (hT:cZ tb t=some T:=by rfl) (hd:T.d=.slice el:=by rfl) (hE:cZ tb el=some E:=by rfl) (hz:E.sz=rp.sz:=by rfl) (hb:E.qZ=bs:=by rfl) (hq:Nat.beq E.z.cells.size rp.sz=true:=by rfl)
 (hk:cA κ κn=true\/vH rp:=by first|exact .inl rfl|exact .inr λ_ _ _ _ h=>h) (hks:cA κs κn=true\/vH rp:=by first|exact .inl rfl|exact .inr λ_ _ _ _ h=>h):cJ tb o L K:=by
 obtain⟨Y,q1,q2⟩:=bind_some h;obtain⟨q3,q4,q5⟩:=Dm q1;refine cJ.of (LT.rp hj λν H e w b cp n k0 hv ht hO hS p1 p2 p3=>?_) (nx Y q2);rw[ho];obtain⟨e1,g7,cs,sp,rfl,g5,g6⟩:=p3;obtain⟨b',c',n',m1,m2⟩:(Lf.own j).R ν H (ev e a):=dH hS ha;rw[p1]at m1;cases m1;obtain⟨ds,d1,d2⟩:=EO hv ht hO hs hks (dH hS hc);subst hb;have g5':cz rp (H κn) cs xs:=by
  rcases hk with hk|hk
  . exact g5.mono (u5 ht hk)
  . exact cz.GW hk g5
 refine aF.Lp (H:=H κn) (gQ hT hd) (jk hE hz) (ee hq) g7 m2 rfl (jT p2) (i:=0) rfl rfl g5' e1 g6 d1 d2 q3 q4 q5 ?_;intro ob' cap' sp' ds' w' hE' hcap hL' hst;exact⟨ob',cap',Y.length,_,hL',λν' H' hν hH=>⟨rfl,g7,ds',sp',rfl,hE'.mono (hH κn),hcap⟩,λν' H' hν hH hn=>⟨ob',cap',Y.length,hn,rfl⟩⟩
theorem gM{α:Type}(rp:cx α)[aO rp]{z:α}{n:Int}{bs:Nat}{f:List α->Option β}{a c:Operand}{ka kc:IntKind}(h:(fZ bs z n).bind f=some res)
 (nx:∀Y,f Y=some res->K ⟨1,[(L.nx,some (.row rp true Y))],[]⟩ (some (.s (.lf (.own L.nx)))))
 (ho:o.op=.makeSlice t a c:=by rfl)(ha:lv (cr L a)=some (.int ka n):=by rfl)(hc:lv (cr L c)=some (.int kc n):=by rfl)(hT:cZ tb t=some T:=by rfl)(hd:T.d=.slice el:=by rfl)(hE:cZ tb el=some E:=by rfl)(hz:E.sz=rp.sz:=by rfl)(hb:E.qZ=bs:=by rfl)
 (h1:fK E.z.cells.toList=true:=by rfl)(hw:qI (E.z.cells.toList.map .v) (aO.cl rp true z)=some (aO.cl rp true z):=by rfl)(hr:(rp.sz==0)=false:=by rfl):cJ tb o L K:=by
 obtain⟨Y,q1,q2⟩:=bind_some h;obtain⟨m,q3,q4,q5,q6⟩:=V5 q1;refine cJ.of (LT.nw λν H e w hv ht hO hS=>?_) (nx Y q2);rw[ho];subst hb;have hv':dz ν H (aO.cl rp true z) E.z.cells.toList:=tV (ν:=ν) ht hw (se h1);refine aF.Xw (H:=H true) (zc:=E.z.cells.toList) (gQ hT hd) (jk hE hz) (by simp) (aO.co hv') (fe hS ha).1 (fe hS hc).1 q3 q4 q5 q6 (oY (w:=w)) ?_;intro b w' cs hE' hcap hL' hst;exact⟨some b,m,Y.length,_,hL',λν' H' hν hH=>⟨rfl,hr,cs,[],rfl,hE'.mono (hH true),hcap⟩,λν' H' hν hH hn=>⟨some b,m,Y.length,hn,rfl⟩⟩
def Bv(L:SS):Nat->List (Nat×Operand)->Option (List S1)
 |_,[]=>some []
 |i,(q,x)::r=>match Nat.beq q i with
  |true=>match cr L x with
   |some (.s s)=>match Bv L (i+1) r with
    |some y=>some (s::y)
    |none=>none
   |_=>none
  |false=>none
def DG:List S1->List (List Lf)->Option (List (List Lf))
 |[],[]=>some []
 |s::r,c::t=>match qI (l9 s) c with
  |some x=>match DG r t with
   |some y=>some (x::y)
   |none=>none
  |none=>none
 |_,_=>none
theorem J1{ν:Nu}{H:Bool->Hp}{e:Env}(hS:dO ν H (aW L.cv) e):∀{parts:List (Nat×Operand)} {i:Nat} {ss:List S1},Bv L i parts=some ss->∃vs,(parts.map λp=>(p.1,ev e p.2))=mT i vs/\eD ν H ss vs
 |[],i,_,h=>by cases h;exact⟨[],rfl,rfl⟩
 |(q,x)::r,i,_,h=>by
  simp only[Bv]at h;split at h
  . rename_i hq;split at h
    . rename_i s hx;split at h
      . rename_i y hy;cases h;obtain⟨vs,g1,g2⟩:=J1 hS hy;have:=ee hq;subst this;exact⟨ev e x::vs,by simp[mT,g1],_,_,rfl,dH hS hx,g2⟩
      . cases h
    . cases h
  . cases h
theorem Pf{α:Type}{rp:cx α}[aO rp]{κ:Bool}{ν:Nu}{H:Bool->Hp}(hw:Le (H true) (H false)):∀{ss:List S1} {vs:List Value} {xs:List α},DG ss (xs.map (aO.cl rp κ))=some (xs.map (aO.cl rp κ))->eD ν H ss vs->∃css,sX rp.sz vs css/\cz rp (H κ) css.flatten xs/\vs.length=xs.length
 |[],vs,[],_,hr=>by rw[show vs=[] from hr];exact⟨[],trivial,rfl,rfl⟩
 |[],_,_::_,h,_=>by cases h
 |_::_,_,[],h,_=>by cases h
 |s::ss,_,x::xs,h,⟨v,vs,h1,h2,h3⟩=>by
  simp only[kZ,DG]at h;split at h
  . rename_i u hu;split at h
    . rename_i y hy;simp only[uT,PM]at h;obtain⟨hu',hy'⟩:=h;subst hu';subst hy';obtain⟨css,g1,g2,g3⟩:=Pf (rp:=rp) (κ:=κ) hw hy h3;obtain⟨cs,c1,c2⟩:=uo h2;have c3:rp.R (H κ) cs x:=aO.co (tV (ν':=ν) hw hu c2);exact⟨cs::css,by rw[h1];exact⟨c1,rp.len _ _ _ c3,g1⟩,⟨cs,css.flatten,rfl,c3,g2⟩,by rw[h1];simp[g3]⟩
    . cases h
  . cases h
theorem dA{α:Type}(rp:cx α)[aO rp](κ:Bool)(xs:List α){n:Nat}{parts:List (Nat×Operand)}{ss:List S1}(nx:K ⟨1,[(L.nx,some (.row rp κ xs))],[]⟩ (some (.s (.lf (.own L.nx)))))
 (ho:o.op=.buildSlice t n parts.toArray:=by rfl)(hp:Bv L 0 parts=some ss:=by rfl)(hw:DG ss (xs.map (aO.cl rp κ))=some (xs.map (aO.cl rp κ)):=by rfl)(hl:xs.length=n:=by rfl)(hT:cZ tb t=some T:=by rfl)(hd:T.d=.slice el:=by rfl)(hE:cZ tb el=some E:=by rfl)(hz:E.sz=rp.sz:=by rfl)
 (h0:Nat.blt 0 (n*rp.sz)=true:=by rfl)(h1:Nat.ble (n*rp.sz) 16777216=true:=by rfl)(hr:(rp.sz==0)=false:=by rfl):cJ tb o L K:=by
 refine cJ.of (LT.nw λν H e w hv ht hO hS=>?_) nx;rw[ho];obtain⟨vs,v1,v2⟩:=J1 hS hp;obtain⟨css,c1,c2,c3⟩:=Pf (rp:=rp) (κ:=κ) ht hw v2;refine aF.WI (H:=H κ) (gQ hT hd) (jk hE hz) (lM h1) v1 (by rw[c3,hl]) c1 (by simpa using h0) c2 hl (oY (w:=w)) ?_;intro b w' hcap hL' hst;subst hl;exact⟨some b,xs.length,xs.length,_,hL',λν' H' hν hH=>⟨rfl,hr,_,[],rfl,c2.mono (hH κ),hcap⟩,λν' H' hν hH hn=>⟨some b,xs.length,xs.length,hn,rfl⟩⟩
theorem jN{α:Type}(rp:cx α)(nx:K ⟨1,[(L.nx,some (.row rp true []))],[]⟩ (some (.s (.lf (.own L.nx)))))
 (ho:o.op=.buildSlice t 0 #[]:=by rfl) (hT:cZ tb t=some T:=by rfl) (hd:T.d=.slice el:=by rfl) (hE:cZ tb el=some E:=by rfl) (hz:E.sz=rp.sz:=by rfl) (hr:(rp.sz==0)=false:=by rfl):cJ tb o L K:=by
 refine cJ.of (LT.nw λν H e w hv ht hO hS=>?_) nx;rw[ho];refine aF.UC (gQ hT hd) (jk hE hz) (oY (w:=w)) ?_;intro b w' hL' hst;exact⟨some b,0,0,_,hL',λν' H' hν hH=>⟨rfl,hr,[],[],rfl,cz.nil,by simp⟩,λν' H' hν hH hn=>⟨some b,0,0,hn,rfl⟩⟩
def wb(L:SS)(d:Int):Option Operand->Option Int
 |none=>some d
 |some x=>match lv (cr L x)with
  |some (.int _ i)=>some i
  |_=>none
theorem By{ν:Nu}{H:Bool->Hp}{e:Env}(hS:dO ν H (aW L.cv) e){x:Option Operand}{d i:Int}(h:wb L d x=some i):(x=none/\i=d)\/∃k y,x=some y/\ev e y=.int k i:=by
 cases x with
 |none=>cases h;exact .inl ⟨rfl,rfl⟩
 |some x=>
  simp only[wb]at h;split at h
  . rename_i k i' hx;cases h;exact .inr ⟨k,x,rfl,(fe hS hx).1⟩
  . cases h
theorem BF{α:Type}{rp:cx α}{κ:Bool}{xs:List α}{l h':Int}{f:List α->Option β}{lo hi:Option Operand}(h:(cut xs l h').bind f=some res)(nx:∀Y,f Y=some res->K .z (some (.s (.lf (.ro rp κ Y)))))
 (ho:o.op=.slice t x lo hi none:=by rfl)(hx:cr L x=some (.s (.lf (.ro rp κ xs))):=by rfl)(hlo:wb L 0 lo=some l:=by rfl)(hhi:wb L (xs.length:Int) hi=some h':=by rfl)(hT:cZ tb t=some T:=by rfl)(hd:T.d=.slice el:=by rfl)(hE:cZ tb el=some E:=by rfl)(hz:E.sz=rp.sz:=by rfl):cJ tb o L K:=by
 obtain⟨Y,q1,q2⟩:=bind_some h;obtain⟨m,n,q3,q4,q5,q6,q7⟩:=Kx q1;refine cJ.of (LT.look λν H e w hv ht hO hS=>?_) (nx Y q2);rw[ho];have hr:Rs rp (H κ) (ev e x) xs:=dH hS hx;refine aF.Rp (l:=m) (h':=n) (gQ hT hd) (jk hE hz) rfl hr ?_ ?_ q5 q6 q7 λv' hv=>⟨rfl,hv⟩
 . rcases By hS hlo with⟨h1,h2⟩|⟨kk,y,h1,h2⟩
   . exact .inl ⟨h1,by omega⟩
   . exact .inr ⟨kk,y,h1,by rw[h2,q3]⟩
 . rcases By hS hhi with⟨h1,h2⟩|⟨kk,y,h1,h2⟩
   . exact .inl ⟨h1,by omega⟩
   . exact .inr ⟨kk,y,h1,by rw[h2,q4]⟩
theorem Dz{α:Type}{rp:cx α}{κ:Bool}{xs:List α}{h':Int}{f:List α->Option β}{hi:Option Operand}{j:Nat}(h:(cut xs 0 h').bind f=some res)(nx:∀Y,f Y=some res->K ⟨1,[(L.nx,some (.row rp κ Y)),(j,none)],[]⟩ (some (.s (.lf (.own L.nx)))))
 (ho:o.op=.slice t x none hi none:=by rfl)(hx:cr L x=some (.s (.lf (.own j))):=by rfl)(hj:aW L.bL j=some (.row rp κ xs):=by rfl)(hhi:wb L (xs.length:Int) hi=some h':=by rfl)(hT:cZ tb t=some T:=by rfl)(hd:T.d=.slice el:=by rfl)(hE:cZ tb el=some E:=by rfl)(hz:E.sz=rp.sz:=by rfl):cJ tb o L K:=by
 obtain⟨Y,q1,q2⟩:=bind_some h;obtain⟨m,n,q3,q4,q5,q6,q7⟩:=Kx q1;refine cJ.of (LT.rp hj λν H e w b cp n0 k0 hv ht hO hS p1 p2 p3=>?_) (nx Y q2);rw[ho];obtain⟨e1,g7,cs,sp,rfl,g5,g6⟩:=p3;obtain⟨b',c',n',m1,m2⟩:(Lf.own j).R ν H (ev e x):=dH hS hx;rw[p1]at m1;cases m1;refine aF.Ua (pre:=[]) (r:=rp) (o:=0) (h':=n) (gQ hT hd) (jk hE hz) g7 m2 p2 g5 e1 g6 ?_ q6 q3 q7 ?_
 . rcases By hS hhi with⟨h1,h2⟩|⟨kk,y,h1,h2⟩
   . exact .inl ⟨h1,by omega⟩
   . exact .inr ⟨kk,y,h1,by rw[h2,q4]⟩
 intro cs' sp' hcs hE';refine⟨b,cp,Y.length,_,jT p2,λν' H' hν hH=>⟨rfl,g7,cs',sp',by rw[hcs],hE'.mono (hH κ),by rw[hcs];exact g6⟩,λν' H' hν hH hn=>⟨b,cp,Y.length,hn,rfl⟩⟩
variable {a b:Operand} {ki kj:IntKind} {p q:Int}
theorem rA{v:Value}(nx:K .z (eX v))(h1:one v=true)(h:∀(e:Env) (w:World),(∀x u,lv (cr L x)=some u->ev e x=u)->aF P o.op o.type (ev e) w λv' w'=>w'=w/\v'=v):cJ tb o L K:=
 cJ.of (sv:=some (.s (.lf (.v v)))) (LT.look λν H e w _ _ _ hS=>(h e w λx u hx=>(fe hS hx).1).mono λv' w' ⟨g1,g2⟩=>⟨g1,g2,h1⟩) nx
theorem quB{f:Int->Option β}(h:(sdiv ki p q).bind f=some res)(nx:∀z,f z=some res->K .z (eX (.int ki z)))
 (ho:o.op=.binOp .quo t a b u:=by rfl)(ha:lv (cr L a)=some (.int ki p):=by rfl)(hb:lv (cr L b)=some (.int ki q):=by rfl):cJ tb o L K:=by
 obtain⟨z,q1,q2⟩:=bind_some h;obtain⟨q3,q4⟩:=Ub q1;exact rA (nx z q2) rfl λe w f=>by rw[ho];exact aF.quoI (f _ _ ha) (f _ _ hb) q3 q4 ⟨rfl,rfl⟩
theorem wN(nx:K .z (eX (.int ki (ki.wrap (p.tdiv q)))))
 (ho:o.op=.binOp .quo t a b u:=by rfl)(ha:lv (cr L a)=some (.int ki p):=by rfl)(hb:lv (cr L b)=some (.int ki q):=by rfl)(h0:¬q=0:=by decide):cJ tb o L K:=
 rA nx rfl λe w f=>by rw[ho];exact aF.quoI (f _ _ ha) (f _ _ hb) h0 rfl ⟨rfl,rfl⟩
theorem reB{f:Int->Option β}(h:(srem p q).bind f=some res)(nx:∀z,f z=some res->K .z (eX (.int ki (p.tmod q))))
 (ho:o.op=.binOp .rem t a b u:=by rfl)(ha:lv (cr L a)=some (.int ki p):=by rfl)(hb:lv (cr L b)=some (.int ki q):=by rfl):cJ tb o L K:=by
 obtain⟨z,q1,q2⟩:=bind_some h;obtain⟨q3,q4⟩:=RJ q1;exact rA (nx z q2) rfl λe w f=>by rw[ho];exact aF.remI (f _ _ ha) (f _ _ hb) q3 ⟨rfl,rfl⟩
theorem reL(nx:K .z (eX (.int ki (p.tmod q))))
 (ho:o.op=.binOp .rem t a b u:=by rfl)(ha:lv (cr L a)=some (.int ki p):=by rfl)(hb:lv (cr L b)=some (.int ki q):=by rfl)(h0:¬q=0:=by decide):cJ tb o L K:=
 rA nx rfl λe w f=>by rw[ho];exact aF.remI (f _ _ ha) (f _ _ hb) h0 ⟨rfl,rfl⟩
theorem slL(nx:K .z (eX (.int ki (jF ki p q))))
 (ho:o.op=.binOp .shl t a b u:=by rfl)(ha:lv (cr L a)=some (.int ki p):=by rfl)(hb:lv (cr L b)=some (.int kj q):=by rfl)(h0:¬q<0:=by decide):cJ tb o L K:=
 rA nx rfl λe w f=>by rw[ho];exact aF.ishl (f _ _ ha) (f _ _ hb) h0 ⟨rfl,rfl⟩
theorem ou(nx:K .z (eX (.int ki (gj ki p q))))
 (ho:o.op=.binOp .shr t a b u:=by rfl)(ha:lv (cr L a)=some (.int ki p):=by rfl)(hb:lv (cr L b)=some (.int kj q):=by rfl)(h0:¬q<0:=by decide):cJ tb o L K:=
 rA nx rfl λe w f=>by rw[ho];exact aF.ishr (f _ _ ha) (f _ _ hb) h0 ⟨rfl,rfl⟩
theorem slB{f:Unit->Option β}(h:(mu (¬q<0)).bind f=some res)(nx:∀z,f z=some res->K .z (eX (.int ki (jF ki p q))))
 (ho:o.op=.binOp .shl t a b u:=by rfl)(ha:lv (cr L a)=some (.int ki p):=by rfl)(hb:lv (cr L b)=some (.int kj q):=by rfl):cJ tb o L K:=by
 obtain⟨z,q1,q2⟩:=bind_some h;exact slL (nx z q2) ho ha hb (AA q1)
theorem srB{f:Unit->Option β}(h:(mu (¬q<0)).bind f=some res)(nx:∀z,f z=some res->K .z (eX (.int ki (gj ki p q))))
 (ho:o.op=.binOp .shr t a b u:=by rfl)(ha:lv (cr L a)=some (.int ki p):=by rfl)(hb:lv (cr L b)=some (.int kj q):=by rfl):cJ tb o L K:=by
 obtain⟨z,q1,q2⟩:=bind_some h;exact ou (nx z q2) ho ha hb (AA q1)
theorem sdB{f:Unit->Option β}{x y:List UInt8}(h:(mu ((x.length:Int)+y.length<=9223372036854775807)).bind f=some res)(nx:∀z,f z=some res->K .z (eX (.string (s8 (x++y)))))
 (ho:o.op=.binOp .add t a b u:=by rfl)(ha:lv (cr L a)=some (.string (s8 x)):=by rfl)(hb:lv (cr L b)=some (.string (s8 y)):=by rfl):cJ tb o L K:=by
 obtain⟨z,q1,q2⟩:=bind_some h;exact rA (nx z q2) rfl λe w f=>by rw[ho];exact aF.sAdd (f _ _ ha) (f _ _ hb) (AA q1) ⟨rfl,rfl⟩
theorem ixS{f:UInt8->Option β}{xs:List UInt8}(h:(idx xs q).bind f=some res)(nx:∀z,f z=some res->K .z (eX (.int .u8 (z.toNat:Int))))
 (ho:o.op=.index t a b:=by rfl)(ha:lv (cr L a)=some (.string (s8 xs)):=by rfl)(hb:lv (cr L b)=some (.int kj q):=by rfl)(hT:cZ tb t=some T:=by rfl)(hd:T.d=.string:=by rfl):cJ tb o L K:=by
 obtain⟨z,q1,q2⟩:=bind_some h;obtain⟨n,q3,q4⟩:=uL q1;exact rA (nx z q2) rfl λe w f=>by rw[ho];exact aF.Vs (gQ hT hd) (f _ _ ha) (f _ _ hb) q3 q4 ⟨rfl,rfl⟩
def L6{α:Type}(xs:List α):Pd:=⟨λ_ a=>∃b,a=.bool b/\(b=true->xs=[]),λ_ _ _ _ h=>h,λ_ _ ⟨b,h,_⟩=>by rw[h];rfl⟩
theorem uk{α:Type}{rp:cx α}{κ:Bool}{xs:List α}(nx:K .z (some (.s (.lf (.pd (L6 xs))))))
 (ho:o.op=.binOp .eql t a b u:=by rfl)(ha:cr L a=some (.s (.lf (.ro rp κ xs))):=by rfl)(hb:lv (cr L b)=some (.slice none 0 0):=by rfl)(hT:cZ tb t=some T:=by rfl)(hd:T.d=.slice el:=by rfl):cJ tb o L K:=by
 refine cJ.of (LT.look λν H e w hv ht hO hS=>?_) nx;rw[ho];have hr:Rs rp (H κ) (ev e a) xs:=dH hS ha;refine aF.RV (gQ hT hd) rfl (Sl.isSlice hr) (fe hS hb).1 ?_;exact⟨rfl,_,rfl,λhi=>(Sl.U5 hr hi).1⟩
theorem cn{α:Type}{F:Fx}{k:List It}{xs:List α}{c:Operand}{ca cb:Code}(ht:xs=[]->Gs tb F (.code ca::k) (L.kn c true))(hf:Gs tb F (.code cb::k) (L.kn c false))(hc:cr L c=some (.s (.lf (.pd (L6 xs)))):=by rfl):jV tb F (.code (.cond c ca cb)::k) L:=by
 refine⟨λe w hs=>?_⟩;have hs':=hs;obtain⟨ν,g1,g2,g3,g4,g5⟩:=hs';obtain⟨bb,q1,q2⟩:∃b,ev e c=.bool b/\(b=true->xs=[]):=dH g5 hc;have kn:St F (L.kn c bb) e w:=by
  cases c with
  |tmp t=>
   refine⟨ν,g1,g2,g3,g4,λt' sv ht'=>?_⟩;have ht':(bif Nat.beq t' t then eX (.bool bb)else aW L.cv t')=some sv:=ht';cases hb:Nat.beq t' t with
   |false=>rw[hb]at ht';exact g5 t' sv ht'
   |true=>
    rw[hb]at ht';cases ht';have:=ee hb;subst this;exact⟨q1,rfl⟩
  |_=>exact hs
 cases bb with
 |true=>exact cO.To q1 rfl ((Gs.ok (ht (q2 rfl))).ok e w kn)
 |false=>exact cO.Nf q1 rfl ((Gs.ok hf).ok e w kn)
end
open Go Go.RowKit Go.X
variable [fy]
theorem M2{H:Hp}{w:World}(hv:Le H (view [] w)):H=vw (λb=>H b≠none) w:=by
 funext b;cases hb:H b with
 |none=>
  cases hw:vw (λb=>H b≠none) w b with
  |none=>rfl
  |some o=>exact bX hb (AJ hw).1
 |some o=>exact(Gp (by rw[hb];simp) (A7 (hv b o hb))).symm
section
variable {P:Program} {tb:List (dZ P)} {L:SS} {o:Oper} {K:Ef->Option Sv->Prop} {β:Type} {res:β} {t u el:TypeId} {x y a b c d:Operand} {T E:dZ P} {kk:IntKind}
theorem clR{α:Type}{rp:cx α}{κ:Bool}{xs:List α}{k1 k2:IntKind}{y':Operand}(nx:K .z (some (.s (.lf (.cp rp κ xs)))))
 (ho:o.op=.slice t x none (some y) (some y'):=by rfl)(hx:cr L x=some (.s (.lf (.ro rp κ xs))):=by rfl)(hy:lv (cr L y)=some (.int k1 (xs.length:Int)):=by rfl)(hy':lv (cr L y')=some (.int k2 (xs.length:Int)):=by rfl)(hT:cZ tb t=some T:=by rfl)(hd:T.d=.slice el:=by rfl)(hE:cZ tb el=some E:=by rfl)(hz:E.sz=rp.sz:=by rfl):cJ tb o L K:=by
 refine cJ.of (LT.look λν H e w hv ht hO hS=>?_) nx;rw[ho];have hr:Rs rp (H κ) (ev e x) xs:=dH hS hx;exact aF.QI (n:=xs.length) (gQ hT hd) (jk hE hz) rfl hr (fe hS hy).1 (fe hS hy').1 rfl rfl λv' h1 h2=>⟨rfl,h1,h2⟩
theorem apC{α:Type}(κn:Bool){rp:cx α}{κ κs:Bool}{xs ys:List α}{bs:Nat}{f:List α->Option β}{l:Lf}(h:(cY bs xs ys).bind f=some res)
 (nx:∀Y,f Y=some res->K ⟨1,[(L.nx,some (.row rp κn Y))],[]⟩ (some (.s (.lf (.own L.nx)))))
 (ho:o.op=.call {callee:=.builtin .append,args:=#[a,c],argTypes:=#[t,t]}:=by rfl) (ha:cr L a=some (.s (.lf (.cp rp κ xs))):=by rfl) (hc:cr L c=some (.s (.lf l)):=by rfl)
 (hs:wy L rp κs ys l:=by first|exact .ro|exact .own rfl) (hp:Nat.blt 0 ys.length=true:=by rfl) (hT:cZ tb t=some T:=by rfl) (hd:T.d=.slice el:=by rfl) (hE:cZ tb el=some E:=by rfl) (hz:E.sz=rp.sz:=by rfl) (hb:E.qZ=bs:=by rfl) (hq:Nat.beq E.z.cells.size rp.sz=true:=by rfl) (hr:(rp.sz==0)=false:=by rfl)
 (hk:cA κ κn=true:=by rfl) (hks:cA κs κn=true\/vH rp:=by first|exact .inl rfl|exact .inr λ_ _ _ _ h=>h):cJ tb o L K:=by
 obtain⟨Y,q1,q2⟩:=bind_some h;obtain⟨q3,q4,q5⟩:=Dm q1;refine cJ.of (LT.nw λν H e w hv ht hO hS=>?_) (nx Y q2);rw[ho];obtain⟨ds,d1,d2⟩:=EO (κn:=κn) hv ht hO hs hks (dH hS hc);obtain⟨hR,hcl⟩:Rs rp (H κ) (ev e a) xs/\xP (ev e a):=dH hS ha;have hR:=Rs.mono hR (u5 ht hk);subst hb;have e1:=M2 (hv κn);rw[e1]at hR d2;refine aF.Ns (gQ hT hd) (jk hE hz) (ee hq) hr rfl rfl hR hcl d1 d2 (by simpa using hp) q3 q4 q5 (oY (w:=w)) λb cap sp cs w' h1 h2 h3 h4=>?_;rw[<-e1]at h1;exact⟨some b,cap,Y.length,_,h3,λν' H' hν hH=>⟨rfl,hr,cs,sp,rfl,h1.mono (hH κn),h2⟩,λν' H' hν hH hn=>⟨some b,cap,Y.length,hn,rfl⟩⟩
theorem HZ{α:Type}{rp:cx α}{κ:Bool}{xs:List α}{lo h':Int}{f:Unit->Option β}{sz j:Nat}{hi:Option Operand}(h:(og xs lo h').bind f=some res)(nx:∀u,f u=some res->K .z (some (.s (.lf (.sg j sz lo h')))))
 (ho:o.op=.slice t x (some y) hi none:=by rfl)(hx:cr L x=some (.s (.lf (.own j))):=by rfl)(hj:aW L.bL j=some (.row rp κ xs):=by rfl)(hlo:lv (cr L y)=some (.int kk lo):=by rfl)(hhi:wb L (xs.length:Int) hi=some h':=by rfl)(hT:cZ tb t=some T:=by rfl)(hd:T.d=.slice el:=by rfl)(hE:cZ tb el=some E:=by rfl)(hz:E.sz=rp.sz:=by rfl)(hs:rp.sz=sz:=by rfl):cJ tb o L K:=by
 obtain⟨u,q1,q2⟩:=bind_some h;obtain⟨m,n,q3,q4,q5,q6⟩:=JX q1;refine cJ.of (LT.look λν H e w hv ht hO hS=>?_) (nx u q2);rw[ho];obtain⟨b,c,cs,sp,g1,g4,g5,g6,g7⟩:=wo hO hj;obtain⟨b',c',n',m1,m2⟩:(Lf.own j).R ν H (ev e x):=dH hS hx;rw[g1]at m1;cases m1;obtain⟨b,rfl⟩:=CF g4 g5 g7 (cy (DL q5 q6));refine aF.QD (r:=rp) (l:=m) (h':=n) (gQ hT hd) (jk hE hz) g7 m2 rfl g5 g6 (.inr ⟨kk,y,rfl,by rw[(fe hS hlo).1,q3]⟩) ?_ q5 q6 ?_
 . rcases By hS hhi with⟨h1,h2⟩|⟨kk,y,h1,h2⟩
   . exact .inl ⟨h1,by omega⟩
   . exact .inr ⟨kk,y,h1,by rw[h2,q4]⟩
 . exact⟨rfl,b,_,m,n,_,g1,q3,q4,DT q5,by rw[hs,ff]⟩
theorem ixG{α:Type}{rp:cx α}{κ:Bool}{xs:List α}{i lo h':Int}{f:α->Option β}{sz j:Nat}(h:((mu (0<=i/\i<h'-lo)).bind λ_=>(idx xs (lo+i)).bind f)=some res)(nx:∀a,f a=some res->K .z (some (.pw j rp xs a (lo+i) 0)))
 (ho:o.op=.indexAddr t x y:=by rfl)(hx:cr L x=some (.s (.lf (.sg j sz lo h'))):=by rfl)(hj:aW L.bL j=some (.row rp κ xs):=by rfl)(hy:lv (cr L y)=some (.int kk i):=by rfl)(hT:cZ tb t=some T:=by rfl)(hd:T.d=.slice el:=by rfl)(hE:cZ tb el=some E:=by rfl)(hz:E.sz=rp.sz:=by rfl)(hs:rp.sz=sz:=by rfl):cJ tb o L K:=by
 obtain⟨u,q0,q2⟩:=bind_some h;replace q0:=AA q0;obtain⟨a,q1,q2⟩:=bind_some q2;obtain⟨n,q3,q4⟩:=uL q1;refine cJ.of (LT.look λν H e w hv ht hO hS=>?_) (nx a q2);rw[ho];obtain⟨b,c,cs,sp,g1,g4,g5,g6,g7⟩:=wo hO hj;obtain⟨b',c',m,k,cp,m1,m2,m3,m4,m5⟩:(Lf.sg j sz lo h').R ν H (ev e x):=dH hS hx;rw[g1]at m1;cases m1;subst hs;refine aF.indexAddr (i:=i.toNat) (gQ hT hd) (jk hE hz) m5 (by rw[(fe hS hy).1];congr 1;omega) (by omega) rfl ⟨rfl,b',_,n,g1,q3,q4,?_⟩;rw[<-iJ,show n=m+i.toNat by omega];rfl
theorem mkM{Q V:Type}(dk:DecidableEq Q)(kf:Q->Value)(vf:V->Value)(nx:K ⟨1,[(L.nx,some (.map dk kf vf []))],[]⟩ (some (.s (.lf (.mp L.nx)))))(ho:o.op=.makeMap t none:=by rfl):cJ tb o L K:=by
 refine cJ.of (LT.nw λν H e w hv ht hO hS=>?_) nx;rw[ho];exact aF.makeMap (kf:=kf) (vf:=vf) (oY (w:=w)) λb w' h1 h2=>⟨some b,0,0,_,h1,λ_ _ _ _=>rfl,λν' H' hν hH hn=>⟨b,(0,0),hn,rfl⟩⟩
section
variable {Q V:Type} {dk:DecidableEq Q} {kf:Q->Value} {vf:V->Value} {m:List (Q×V)} {i:Nat} {kt et:TypeId}
theorem luM(z:V)(q:Q)(hk:ml P kt kf)(h1:∀v,one (vf v)=true)(nx:K .z (some (.fX [.lf (.v (vf (gh m q z).1)),.lf (.v (.bool (gh m q z).2))])))
 (ho:o.op=.lookup t a c true:=by rfl)(ha:cr L a=some (.s (.lf (.mp i))):=by rfl)(hi:aW L.bL i=some (.map dk kf vf m):=by rfl)(hc:lv (cr L c)=some (kf q):=by rfl)(hT:cZ tb t=some T:=by rfl)(hd:T.d=.map kt et:=by rfl)(hE:cZ tb et=some E:=by rfl)(hz:E.z=vf z:=by rfl):cJ tb o L K:=by
 refine cJ.of (LT.look λν H e w hv ht hO hS=>?_) nx;rw[ho];obtain⟨b,c',g1,g2⟩:(Lf.mp i).R ν H (ev e a):=dH hS ha;obtain⟨b',c'',n,k,q1,q2,q3⟩:=hO i _ hi;rw[g1]at q1;cases q1;have q3:k=lF kf vf m:=q3;subst q3;exact aF.look (z:=z) hk (gQ hT hd) (hz▸gJ hE) g2 q2 (fe hS hc).1 ⟨rfl,_,rfl,_,_,rfl,⟨rfl,h1 _⟩,_,_,rfl,⟨rfl,rfl⟩,rfl⟩
theorem puM(q:Q)(v:V)(hk:ml P kt kf)(nx:K ⟨0,[(i,some (.map dk kf vf (lE m q v)))],[]⟩ none)
 (ho:o.op=.mapUpdate t a c d:=by rfl)(ha:cr L a=some (.s (.lf (.mp i))):=by rfl)(hi:aW L.bL i=some (.map dk kf vf m):=by rfl)(hc:lv (cr L c)=some (kf q):=by rfl)(hd':lv (cr L d)=some (vf v):=by rfl)(hT:cZ tb t=some T:=by rfl)(hd:T.d=.map kt et:=by rfl):cJ tb o L K:=by
 refine cJ.of (LT.md hi λν H e w b c0 n k0 hv ht hO hS p1 p2 p3=>?_) nx;rw[ho];obtain⟨b',c',g1,g2⟩:(Lf.mp i).R ν H (ev e a):=dH hS ha;rw[p1]at g1;cases g1;have p3:k0=lF kf vf m:=p3;subst p3;exact aF.UF hk (gQ hT hd) g2 (fe hS hc).1 (fe hS hd').1 (jT p2) 0 rfl rfl λw' h1 h2=>⟨_,h1,λ_ _=>rfl⟩
end
def qp(κ:Bool)(l:List Lf):Pd:=⟨λH a=>∃b o vs,a=.pointer (some ⟨b,o,none⟩)/\At (H κ) b o vs/\dz uD H l vs,λH H' a hH ⟨b,o,vs,h1,h2,h3⟩=>⟨b,o,vs,h1,h2.mono (hH κ),h3.mono (fu.refl _) hH⟩,λH a ⟨b,o,vs,h1,_⟩=>by rw[h1];rfl⟩
def gW(P:Program){α ρ:Type}(az:α->List S1)(rs:ρ->List S1)(f:α->Option ρ):Pd:=
  ⟨λH v=>∃fid caps,v=.func (.func fid) #[] (List.toArray caps)/\Enters P fid/\∀(X:Nat->Prop) (w:World) (H':Bool->Hp) (ν:Nu) (x:α) (r:ρ) (l:List Value),(∀κ,Le (H κ) (H' κ))->(∀k,ν k=none)->de X w H' ν (λ_=>none) w->f x=some r->eD ν (HF X w H' ν (λ_=>none) w) (az x) l->
      Calls P fid (l++caps).toArray w (λe w'=>∃vs,e=.returned (jW vs)/\zl X w H' ν 0 [] (rs r) vs w'),
   λH H' v hH ⟨fid,caps,h1,h2,h3⟩=>⟨fid,caps,h1,h2,λX w H2 ν x r l hle=>h3 X w H2 ν x r l λκ=>Le.trans (hH κ) (hle κ)⟩,
   λH v ⟨fid,caps,h1,_⟩=>by rw[h1];rfl⟩
theorem tA(t:Nat){κ:Bool}{l:List Lf}(ht:aW L.cv t=some (.s (.lf (.pd (qp κ l)))):=by rfl):Vw L ⟨0,[],[(t,some (.pr κ l 0))]⟩:=by
 refine⟨λX w0 H0 ν oF e w ho hn hS hs=>⟨ν,jr.refl,hS,λ_=>Le.refl _,λt' sv h=>?_⟩⟩;have h:(bif Nat.beq t' t then some (Sv.pr κ l 0)else none)=some sv:=h;cases hb:Nat.beq t' t with
 |false=>rw[hb]at h;cases h
 |true=>
  rw[hb]at h;cases h;have:=ee hb;subst this;obtain⟨b,o,vs,h1,h2,h3⟩:=hs _ _ ht;exact⟨b,o,vs,h1,h2,h3.mono (λi x h=>(by cases h)) λ_=>Le.refl _⟩
theorem tI(j t:Nat){l:List Lf}(hj:aW L.bL j=some (.box l):=by rfl)(ht:aW L.cv t=some (.s (.lf (.ptr j 0))):=by rfl):Vw L ⟨0,[(j,none)],[(t,some (.pr true l 0))]⟩:=by
 refine⟨λX w0 H0 ν oF e w ho hn hS hs=>?_⟩;obtain⟨b,c,n,kk,q1,q2,vs,e2,e3⟩:=hS.dD j _ (ho j _ hj);obtain⟨b',c',r1,r2⟩:(Lf.ptr j 0).R ν (HF X w0 H0 ν oF w) (e t):=hs _ _ ht;rw[q1]at r1;cases r1;obtain⟨g1,g2⟩:=hS.go (T:=[j]) (O:=[some b']) (new:=[]) (oF':=bS [(j,none)] oF) (ν':=ν) (λb' hb=>by simp only[df]at hb;exact⟨j,by simp,_,ho j _ hj,by rw[eV q1,hb]⟩) ((jT q2).drop 0).1 (fu.refl ν) rfl (by simp)
  (λi o h=>by
   rcases kd h with h|⟨h,h2⟩
   . simp at h
   . refine .inl ⟨h,λhm=>?_⟩;simp only[df]at hm;subst hm;simp[cI]at h2)
  (λ_ x hx=>by cases hx) (λx hx=>by cases hx) ⟨rfl,rfl⟩
 refine⟨ν,jr.refl,g1,g2,λt' sv h=>?_⟩;have h:(bif Nat.beq t' t then some (Sv.pr true l 0)else none)=some sv:=h;cases hb:Nat.beq t' t with
 |false=>rw[hb]at h;cases h
 |true=>
  rw[hb]at h;cases h;have:=ee hb;subst this;have hno:¬Ow ν (bS [(j,none)] oF) b':=by
   rintro⟨i,ob,r2,r3⟩;rcases kd r2 with h|⟨h,h2⟩
   . simp at h
   . have:=hS.iq i j ob _ b' h (ho j _ hj) r3 (.inl (eV q1));subst this;simp[cI]at h2
  subst e2;exact⟨b',0,vs,r2,pT q2 λq hq=>mq (hS.fresh j _ b' (ho j _ hj) (.inl (eV q1))) hno (vT q2 hq),e3.mono (fu.refl ν) g2⟩
theorem eD.append{ν:Nu}{H:Bool->Hp}:∀{l l':List S1} {a a':List Value},eD ν H l a->eD ν H l' a'->eD ν H (l++l') (a++a')
 |[],_,_,_,h,h'=>by rw[show _=[] from h];exact h'
 |_::_,_,_,_,⟨a,az,h1,h2,h3⟩,h'=>by rw[h1];exact⟨a,az++_,rfl,h2,h3.append h'⟩
def uC(L:SS):List Operand->Option (List S1)
 |[]=>some []
 |x::r=>match cr L x with
  |some (.pr κ l 0)=>match l.all okV&&uC.isT κ with
   |true=>match uC L r with
    |some y=>some (.lf (.pd (qp false (l.map wf)))::y)
    |none=>none
   |false=>none
  |_=>none
where
 isT:Bool->Bool:=λ_=>true
 wf:Lf->Lf
  |.ro r _ xs=>.ro r false xs
  |l=>l
 okV:Lf->Bool
  |.v _=>true
  |.ro _ _ _=>true
  |.pd _=>true
  |_=>false
theorem M4{ν ν':Nu}{H:Bool->Hp}:∀{l:List Lf} {vs:List Value},l.all uC.okV=true->dz ν H l vs->dz ν' H l vs
 |[],_,_,h=>h
 |x::r,_,hk,⟨a,az,h1,h2,h3⟩=>by
  simp only[DZ,gz]at hk;refine⟨a,az,h1,?_,M4 hk.2 h3⟩;cases x<;>first|exact h2|cases hk.1
theorem wf_R{ν:Nu}{H:Bool->Hp}(ht:Le (H true) (H false)):∀{l:List Lf} {vs:List Value},dz ν H l vs->dz ν H (l.map uC.wf) vs
 |[],_,h=>h
 |x::r,_,⟨a,az,h1,h2,h3⟩=>by
  refine⟨a,az,h1,?_,wf_R ht h3⟩;cases x with
  |ro rp κ xs=>cases κ with
   |true=>exact Rs.mono h2 ht
   |false=>exact h2
  |_=>exact h2
theorem OD{ν:Nu}{H:Bool->Hp}{e:Env}(ht:Le (H true) (H false))(hS:dO ν H (aW L.cv) e):∀{xs:List Operand} {ss:List S1},uC L xs=some ss->eD uD H ss (xs.map (ev e))
 |[],_,h=>by cases h;rfl
 |x::r,_,h=>by
  simp only[uC]at h;split at h
  . rename_i κ l hx;split at h
    . rename_i hk;split at h
      . rename_i y hy;cases h;simp only[gz]at hk;obtain⟨b,o,vs,h1,h2,h3⟩:=dH hS hx;refine⟨_,_,rfl,⟨b,o,vs,h1,?_,wf_R ht (M4 hk.1 h3)⟩,OD ht hS hy⟩;cases κ with
        |true=>exact h2.mono ht
        |false=>exact h2
      . cases h
    . cases h
  . cases h
theorem mkF{α ρ:Type}(az:α->List S1)(rs:ρ->List S1)(f:α->Option ρ){fid:FuncId}{caps:List Operand}{cs:List S1}(c:∀x r,f x=some r->Cx P fid (az x++cs) [] [] (rs r))(he:Enters P fid)(nx:K .z (some (.s (.lf (.pd (gW P az rs f))))))
 (ho:o.op=.makeFunc (.func fid) #[] caps.toArray:=by rfl) (hc:uC L caps=some cs:=by rfl):cJ tb o L K:=by
 refine cJ.of (LT.look λν H e w hv ht hO hS=>?_) nx;rw[ho];refine aF.makeFunc rfl ⟨rfl,fid,caps.map (ev e),rfl,he,?_⟩;intro X w1 H' ν1 x r l hle hν hSt hf hl;have hcap:=OD ht hS hc;have hin:∀κ,Le (H κ) (HF X w1 H' ν1 (λ_=>none) w1 κ):=λκ b o hb=>by
  have h1:=hle κ b o hb;have h2:H' false b=some o:=by
   cases κ with
   |true=>exact hSt.h0 b o h1
   |false=>exact h1
  obtain⟨g1,g2,g3⟩:=hSt.oy b o h2;rw[pf g1 g3];exact h1
 have hno:aW (eZ 0 ([]:List Ob))=λ_=>none:=by funext t;rfl
 have:=(c x r hf).2 X w1 H' ν1 (l++caps.map (ev e)) (λk _=>hν k) (by rw[hno];exact hSt) (by
  rw[hno];exact hl.append (hcap.mono (λi x h=>(by cases h)) hin))
 exact this
theorem cvl{α ρ:Type}{az:α->List S1}{rs:ρ->List S1}{g:α->Option ρ}(x:α){f:ρ->Option β}{fo:Operand}{args:List Operand}{ats:Array TypeId}{ls:List S1}(h:(g x).bind f=some res)(nx:∀r,f r=some res->K .z (some (qx ((rs r).map (l7 none [] L.nx)))))
 (ho:o.op=.call {callee:=.value fo,args:=args.toArray,argTypes:=ats}:=by rfl)(hf:cr L fo=some (.s (.lf (.pd (gW P az rs g)))):=by rfl)(ha:oT L args=some ls:=by rfl)(hl:lh none (aW L.bL) [] ls (az x)=some (az x):=by rfl)(h2:∀r,(rs r).all (qa none 0)=true:=by intro r;rfl):cJ tb o L K:=by
 obtain⟨r,q1,q2⟩:=bind_some h;refine cJ.of ⟨λX w0 H0 ν oF e w ho' hν hS hs=>?_⟩ (nx r q2);rw[ho];obtain⟨fid,caps,e1,he,hcall⟩:=dH hs hf;have hI:∀i∈([]:List Nat),∃ob,oF i=some ob:=λi hi=>by cases hi
 have hb:jJ none oF [] [] []=some []:=rfl;have hin:=hS.AL (md:=none) (is:=[]) rfl hb;have e0:aW (eZ 0 ([]:List Ob))=λ_=>none:=by funext t;rfl
 rw[e0]at hin;have hargs:=zE (md:=none) (is:=[]) (νc:=eM ν []) (cF:=λ_=>none) hS hI (ru hS hI) (HI ho' hl) (Cg hs ha);have hc:=hcall (Xc ν []) w _ (eM ν []) x r (args.map (ev e)) (λκ=>qh (md:=none) hS hI (by cases κ<;>rfl)) (λk=>rfl) hin q1 hargs;have hfe:ev e fo=.func (.func fid) (List.toArray []) caps.toArray:=e1;refine aF.OI he hfe (by simp) hc ?_;rintro en w' ⟨vs,rfl,ν',hp,hE,hr⟩;refine⟨jW vs,rfl,AR none [] 0 L.nx hS hI rfl rfl (h2 r) rfl hν (λk hk=>bX hk (D2 k)) hE hr⟩
theorem ve{α ρ:Type}{az:α->List S1}{rs:ρ->List S1}{g:α->Option ρ}(x:α){f:ρ->Option β}{fo:Operand}{args:List Operand}{ats:Array TypeId}{ls:List S1}(h:(g x).bind f=some res)(nx:∀r,f r=some res->K .z (some (qx ((rs r).map (l7 (some false) [] L.nx)))))
 (ho:o.op=.call {callee:=.value fo,args:=args.toArray,argTypes:=ats}:=by rfl)(hf:cr L fo=some (.s (.lf (.pd (gW P az rs g)))):=by rfl)(ha:oT L args=some ls:=by rfl)(hl:lh (some false) (aW L.bL) [] ls (az x)=some (az x):=by rfl)(h2:∀r,(rs r).all (qa (some false) 0)=true:=by intro r;rfl):cJ tb o L K:=by
 obtain⟨r,q1,q2⟩:=bind_some h;refine cJ.of ⟨λX w0 H0 ν oF e w ho' hν hS hs=>?_⟩ (nx r q2);rw[ho];obtain⟨fid,caps,e1,he,hcall⟩:=dH hs hf;have hI:∀i∈([]:List Nat),∃ob,oF i=some ob:=λi hi=>by cases hi
 have hb:jJ (some false) oF [] [] []=some []:=rfl;have hin:=hS.AL (md:=some false) (is:=[]) rfl hb;have e0:aW (eZ 0 ([]:List Ob))=λ_=>none:=by funext t;rfl
 rw[e0]at hin;have hargs:=zE (md:=some false) (is:=[]) (νc:=eM ν []) (cF:=λ_=>none) hS hI (ru hS hI) (HI ho' hl) (Cg hs ha);have hc:=hcall (Xc ν []) w _ (eM ν []) x r (args.map (ev e)) (λκ=>qh (md:=some false) hS hI (by cases κ<;>rfl)) (λk=>rfl) hin q1 hargs;have hfe:ev e fo=.func (.func fid) (List.toArray []) caps.toArray:=e1;refine aF.OI he hfe (by simp) hc ?_;rintro en w' ⟨vs,rfl,ν',hp,hE,hr⟩;refine⟨jW vs,rfl,AR (some false) [] 0 L.nx hS hI rfl rfl (h2 r) rfl hν (λk hk=>bX hk (D2 k)) hE hr⟩
inductive qF (P:Program):List S1->List S1->Prop
 |n:qF P [] []
 |s {a:S1} {l l':List S1} (h:qF P l l'):qF P (a::l) (a::l')
 |f {α ρ:Type} (az:α->List S1) (rs:ρ->List S1) (f:α->Option ρ) {fid:FuncId} (c:∀x r,f x=some r->Cx P fid (az x) [] [] (rs r)) (he:Enters P fid) {l l':List S1} (h:qF P l l'):qF P (.lf (.v (.func (.func fid) #[] #[]))::l) (.lf (.pd (gW P az rs f))::l')
theorem qF.ok{ν:Nu}{H:Bool->Hp}:∀{l l':List S1} {v:List Value},qF P l l'->eD ν H l v->eD ν H l' v
  |_,_,_,.n,h=>h
  |_,_,_,.s k,⟨a,az,h1,h2,h3⟩=>⟨a,az,h1,h2,k.ok h3⟩
  |_,_,_,.f az rs g c he k,⟨a,l,h1,h2,h3⟩=>⟨a,l,h1,⟨_,[],h2.1,he,λX w H' ν1 x r l2 hle hν hSt hf hl=>by
      have hno:aW (eZ 0 ([]:List Ob))=λ_=>none:=by funext t;rfl
      have:=(c x r hf).2 X w H' ν1 l2 (λk _=>hν k) (by rw[hno];exact hSt) (by rw[hno];exact hl);rw[lH];exact this⟩,k.ok h3⟩
theorem clF(md:Option Bool)(is:List Nat)(nn:Nat){ρ:Type}{g:Option ρ}{f:ρ->Option β}{fid:FuncId}{args:List Operand}{ats:Array TypeId}{l0 ls az:List S1}{ib:List Ob}{out:ρ->List (Nat×Option Ob)}{rs:ρ->List S1}
 (h:g.bind f=some res)(c:∀r,g=some r->Cx P fid az ib (out r) (rs r))(hc:qF P l0 ls)(nx:∀r,f r=some res->K ⟨nn,fF md is L.nx (out r)++iN is,[]⟩ (some (qx ((rs r).map (l7 md is L.nx)))))
 (ho:o.op=.call {callee:=.value (.func fid),args:=args.toArray,argTypes:=ats}:=by rfl)(ha:oT L args=some l0:=by rfl)(hl:lh md (aW L.bL) is ls az=some az:=by rfl)(hb:jJ md (aW L.bL) is is ib=some ib:=by rfl)(hn:gE is=true:=by rfl)
 (h1:∀r,oI md (is.length+nn) (out r)=true:=by intro r;rfl)(h2:∀r,(rs r).all (qa md (is.length+nn))=true:=by intro r;rfl)(h3:∀r,gE ((out r).map (·.1))=true:=by intro r;rfl):cJ tb o L K:=by
 obtain⟨r,q1,q2⟩:=bind_some h;refine cJ.of ?_ (nx r q2);rw[ho];exact My md is nn (c r q1) ha (λ_ _ _ h=>hc.ok h) hl hb hn (h1 r) (h2 r) (h3 r)
theorem Vw.comp{a b:Ef}(v:Vw L a)(v2:Vw (L.mJ a) b):Vw L (a.comp b):=by
 refine⟨λX w0 H0 ν oF e w ho hn hS hs=>?_⟩;obtain⟨ν1,g1,g2,g3,g4⟩:=v.ok X w0 H0 ν oF e w ho (λk h1 h2=>hn k h1 (by show k<L.nx+(a.n+b.n);omega)) hS hs;have hle:=g1.le (λk h1 h2=>hn k h1 (by show k<L.nx+(a.n+b.n);omega));obtain⟨ν2,q1,q2,q3,q4⟩:=v2.ok X w0 H0 ν1 (bS a.up oF) e w (by rw[pR];exact ON ho) (λk h1 h2=>by
  have h1:L.nx+a.n<=k:=h1;have h2:k<L.nx+a.n+b.n:=h2;rw[g1 k (.inr h1)];exact hn k (by omega) (by show k<L.nx+(a.n+b.n);omega)) g2 (by rw[um];exact(hs.mono hle g3).ap g4)
 rw[<-pP]at q2 q3 q4;have hle2:fu ν1 ν2:=q1.le (λk h1 h2=>by
  have h1:L.nx+a.n<=k:=h1;have h2:k<L.nx+a.n+b.n:=h2;rw[g1 k (.inr h1)];exact hn k (by omega) (by show k<L.nx+(a.n+b.n);omega))
 refine⟨ν2,λk hk=>?_,q2,λκ=>Le.trans (g3 κ) (q3 κ),?_⟩
 . have hk:k<L.nx\/L.nx+(a.n+b.n)<=k:=hk;rw[q1 k (by show k<L.nx+a.n\/L.nx+a.n+b.n<=k;omega),g1 k (by omega)]
 . have e1:aW (a.comp b).sl=bS b.sl (aW a.sl):=by funext t;exact re _ _ _
   rw[e1];exact(g4.mono hle2 q3).ap q4
theorem iZ(tb:List (dZ P)){f:FuncId}{fn:Func}{c:Code}{rl:List ResultVar}{n:Nat}{az rs:List S1}{ib:List Ob}{out:List (Nat×Option Ob)}{m:Nat}{a:Ef}(v:Vw ⟨m,eZ 0 ib,qk 0 az⟩ a)(en:Enters P f)(hf:P.funcs[f]?=some fn)
 (h:∀X w H ν,Gs tb ⟨n,QR P rl X w H ν m out rs,X,w,H,m,ν⟩ [.code c] ((⟨m,eZ 0 ib,qk 0 az⟩:SS).mJ a))(hm:ib.length=m:=by rfl)(hb:fn.body=some c:=by rfl)(hn:fn.ntmps=n:=by rfl)(hr:fn.results=rl.toArray:=by rfl)(hl:Nat.ble az.length n=true:=by rfl):Cx P f az ib out rs:=by
 subst hm;refine⟨en,λX w H ν l hν hS hl'=>?_⟩;refine JW hf hb hn hr (by rw[hl'.length];exact lM hl) ?_;have h0:St ⟨n,QR P rl X w H ν ib.length out rs,X,w,H,ib.length,ν⟩ ⟨ib.length,eZ 0 ib,qk 0 az⟩ (lY l) w:=⟨ν,hν,bQ _,λ_ _=>rfl,hS,Bm 0 hl' (λi v hi=>by rw[ff];simp[lY,hi])⟩;refine((Gs.ok (h X w H ν)).ok _ _ (v.st h0)).mono ?_;rintro e w' ⟨vs,h1,h2⟩;exact⟨vs,h1,vs,rfl,h2⟩
theorem kh{α:Type}{rp:cx α}{κ:Bool}{xs:List α}{i:Int}{f:α->Option β}{j:Nat}(h:(idx xs i).bind f=some res)(nx:∀a,idx xs i=some a->f a=some res->K .z (some (.pw j rp xs a i 0)))
 (ho:o.op=.indexAddr t x y:=by rfl)(hx:cr L x=some (.s (.lf (.own j))):=by rfl)(hj:aW L.bL j=some (.row rp κ xs):=by rfl)(hy:lv (cr L y)=some (.int kk i):=by rfl)(hT:cZ tb t=some T:=by rfl)(hd:T.d=.slice el:=by rfl)(hE:cZ tb el=some E:=by rfl)(hz:E.sz=rp.sz:=by rfl):cJ tb o L K:=by
 obtain⟨a,q1,q2⟩:=bind_some h;obtain⟨n,q3,q4⟩:=uL q1;refine cJ.of (LT.look λν H e w hv ht hO hS=>?_) (nx a q1 q2);rw[ho];obtain⟨b,c,cs,sp,g1,g4,g5,g6,g7⟩:=wo hO hj;obtain⟨b',c',n',m1,m2⟩:(Lf.own j).R ν H (ev e x):=dH hS hx;rw[g1]at m1;cases m1;obtain⟨b,rfl⟩:=CF g4 g5 g7 q4;exact aF.EY (r:=rp) (q:=n*rp.sz+0) (gQ hT hd) (jk hE hz) m2 rfl (fe hS hy).1 q3 (eN.1 q4).1 (by omega) ⟨rfl,b,_,n,g1,q3,q4,rfl⟩
end
open Go Go.RowKit Go.X
variable [fy]
theorem Wo{P:Program}{f:FuncId}{az rs:List S1}(c:Cn P f az [] rs){W:World}{l:List Value}(h:eD uD (λ_=>HW W) az l)(hT:xG λ_=>HW W):
 Calls P f l.toArray W (λe w'=>∃vs ν' H',e=.returned (jW vs)/\Ext W w'/\eD ν' H' rs vs):=by
 have hno:aW (eZ 0 ([]:List Ob))=λ_=>none:=by funext t;rfl
 have h0:∀b o,HW W b=some o->b<W.heap.size/\W.heap[b]?=some o/\¬(λ_:Nat=>False) b:=λb o hb=>by
  have h1:=(AJ hb).2;exact⟨ld h1,h1,λh=>h⟩
 have hS:de (λ_=>False) W (λ_=>HW W) uD (λ_=>none) W:=
  ⟨rfl,rfl,rfl,bQ _,λ_ _ _=>rfl,Le.refl _,h0,hT,λi ob hi=>by(cases hi),λi ob b hi=>by(cases hi),λi j oi oj b hi=>by(cases hi),λi ob hi=>by(cases hi)⟩
 have hle:∀κ,Le (HW W) (HF (λ_=>False) W (λ_=>HW W) uD (λ_=>none) W κ):=λκ b o hb=>by
  obtain⟨g1,g2,g3⟩:=h0 b o hb;rw[pf g1 g3];exact hb
 refine(c.2 (λ_=>False) W (λ_=>HW W) uD l (λ_ _=>rfl) (by rw[hno];exact hS) (by rw[hno];exact h.mono (λi x hx=>by(cases hx)) hle)).mono ?_;rintro e w' ⟨vs,rfl,ν',_,hE,hr⟩;exact⟨vs,ν',_,rfl,⟨hE.os,hE.tape,hE.output,hE.size,λk hk=>hE.keep k hk (λh=>h)⟩,hr⟩
theorem XM{P:Program}{f:FuncId}{az:List S1}{b:Bool}(c:Cn P f az [] [sB b]){W:World}{l:List Value}(h:eD uD (λ_=>HW W) az l)(hT:xG λ_=>HW W):Calls P f l.toArray W (Ret W λv _=>Value.bool b=v/\True):=by
 refine(Wo c h hT).mono ?_;rintro e w' ⟨vs,ν',H',rfl,hE,a,az,rfl,⟨h1,_⟩,rfl⟩;exact⟨_,rfl,hE,h1.symm,trivial⟩
open Go Go.RowKit Go.X
variable [fy]
theorem Ql{P:Program}{f:FuncId}{az rs:List S1}(en:Enters P f)(h:∀(ν:Nu) (H:Bool->Hp) (w:World) (l:List Value),eD ν H az l->Calls P f l.toArray w (λe w'=>∃vs,e=.returned (jW vs)/\Ext w w'/\∀(ν':Nu) (H':Bool->Hp),eD ν' H' rs vs)):Cn P f az [] rs:=by
 have hno:aW (eZ 0 ([]:List Ob))=λ_=>none:=by funext t;rfl
 refine⟨en,λX w H ν l hν hS hl=>(h _ _ w l hl).mono ?_⟩;rintro e w' ⟨vs,rfl,hE,hr⟩;rw[hno]at hS;refine⟨vs,rfl,ν,λ_ _=>rfl,?_,hr _ _⟩;rw[hno];exact⟨hE.os,hE.tape,hE.output,hE.size,λk hk _=>hE.block k hk,hS.h0,hS.oy,hS.qG,λi ob hi=>(by cases(show none=some ob from hi)),λi ob b hi=>(by cases(show none=some ob from hi)),λi j oi oj b hi=>(by cases(show none=some oi from hi)),λi ob hi=>(by cases(show none=some ob from hi))⟩
theorem TK{P:Program}{f:FuncId}{az rs:List S1}(en:Enters P f)(h:∀(ν:Nu) (H:Bool->Hp) (w:World) (l:List Value),(∀κ,Le (H κ) (view [] w))->eD ν H az l->Calls P f l.toArray w (λe w'=>∃vs,e=.returned (jW vs)/\Ext w w'/\∀(ν':Nu) (H':Bool->Hp),eD ν' H' rs vs)):Cn P f az [] rs:=by
 have hno:aW (eZ 0 ([]:List Ob))=λ_=>none:=by funext t;rfl
 refine⟨en,λX w H ν l hν hS hl=>(h _ _ w l (λκ=>hS.view κ) hl).mono ?_⟩;rintro e w' ⟨vs,rfl,hE,hr⟩;rw[hno]at hS;refine⟨vs,rfl,ν,λ_ _=>rfl,?_,hr _ _⟩;rw[hno];exact⟨hE.os,hE.tape,hE.output,hE.size,λk hk _=>hE.block k hk,hS.h0,hS.oy,hS.qG,λi ob hi=>(by cases(show none=some ob from hi)),λi ob b hi=>(by cases(show none=some ob from hi)),λi j oi oj b hi=>(by cases(show none=some oi from hi)),λi ob hi=>(by cases(show none=some ob from hi))⟩
theorem Xu{P:Program}{f:FuncId}{az rs:List S1}(en:Enters P f)(h:∀(ν:Nu) (H:Bool->Hp) (w:World) (l:List Value),(∀g∈fy.l,∃o,w.heap[g]?=some o/\fy.p g o)->eD ν H az l->Calls P f l.toArray w (λe w'=>∃vs,e=.returned (jW vs)/\Ext w w'/\∀(ν':Nu) (H':Bool->Hp),eD ν' H' rs vs)):Cn P f az [] rs:=by
 have hno:aW (eZ 0 ([]:List Ob))=λ_=>none:=by funext t;rfl
 refine⟨en,λX w H ν l hν hS hl=>(h _ _ w l (λg hg=>?_) hl).mono ?_⟩
 . obtain⟨o,h1,h2⟩:=hS.tab g hg;exact⟨o,(hS.rd h1).1,h2⟩
 rintro e w' ⟨vs,rfl,hE,hr⟩;rw[hno]at hS;refine⟨vs,rfl,ν,λ_ _=>rfl,?_,hr _ _⟩;rw[hno];exact⟨hE.os,hE.tape,hE.output,hE.size,λk hk _=>hE.block k hk,hS.h0,hS.oy,hS.qG,λi ob hi=>(by cases(show none=some ob from hi)),λi ob b hi=>(by cases(show none=some ob from hi)),λi j oi oj b hi=>(by cases(show none=some oi from hi)),λi ob hi=>(by cases(show none=some ob from hi))⟩
open Go Go.RowKit Go.X
variable [fy]
structure DF {α β:Type}(D:BN α)(f off:Nat)(rf:cx β)(get:α->List β)(set:α->List β->α):Prop where
 lt:f<D.nf
 lo:off<D.r.sz
 at':∀vs bs cc x,D.R vs bs cc x->∃v b k,vs[off]?=some v/\bs[f]?=some b/\cc[f]?=some k/\DS rf v b k (get x)
 st:∀vs bs cc x v b k ys,D.R vs bs cc x->DS rf v b k ys->D.R (vs.set off v) (bs.set f b) (cc.set f k) (set x ys)
 gs:∀x,set x (get x)=x
 sz:(rf.sz==0)=false
 fr:vH rf
open Go Go.RowKit Go.X
variable [fy]
section
variable {P:Program} {tb:List (dZ P)} {L:SS} {o:Oper} {K:Ef->Option Sv->Prop} {β:Type} {res:β} {t u el:TypeId} {x y a c:Operand} {T E:dZ P} {α:Type}
theorem dK(i off j:Nat){l:List Lf}{rp:cx α}{κ:Bool}{xs:List α}(hi:aW L.bL i=some (.box l):=by rfl)(hj:aW L.bL j=some (.row rp κ xs):=by rfl)(hl:l[off]?=some (.own j):=by rfl)(hne:Nat.beq i L.nx=false:=by rfl)(hij:Nat.beq i j=false:=by rfl):
 Vw L ⟨1,[(i,some (.box (l.set off (.own L.nx)))),(L.nx,some (.row rp κ xs)),(j,none)],[]⟩:=by
 refine⟨λX w0 H0 ν oF e w ho hn hS hs=>?_⟩;have hx:=hn L.nx (bQ _) (by show L.nx<L.nx+1;omega);obtain⟨b,c,n,k,p1,p2,p3⟩:=hS.dD j _ (ho j _ hj);obtain⟨g1,g2⟩:=hS.dG (ob:=.row rp κ xs) (c':=c) (n':=n) rfl (ho j _ hj) p1 hx (jT p2) (λH' hH=>by
  obtain⟨e1,e0,cs,sp,e2,e3,e4⟩:=p3;exact⟨e1,e0,cs,sp,e2,e3.mono (hH κ),e4⟩)
 have hoi:bS [(L.nx,some (Ob.row rp κ xs)),(j,none)] oF i=some (.box l):=by
  show(bif Nat.beq i L.nx then _ else bif Nat.beq i j then _ else oF i)=_;rw[hne,hij];exact ho _ _ hi
 have hjn:j≠L.nx:=by rintro rfl;rw[p1]at hx;cases hx
 obtain⟨k1,k2⟩:=g1.review (up:=[(i,some (.box (l.set off (.own L.nx))))]) (λq o hq=>by
  simp only[df,oE]at hq;obtain⟨rfl,rfl⟩:=hq;refine⟨.box l,_,rfl,hoi,rfl,?_⟩;rintro c' n' k' ⟨vs,q1,q2⟩;obtain⟨y,q3,b',c2,n2,q4,q5⟩:=q2.get hl;rw[Dp hjn,p1]at q4;cases q4;have:=q2.set (i:=off) (x:=.own L.nx) (y:=y) ⟨_,_,_,ng,q5⟩;rw[u6 q3]at this;exact⟨vs,q1,this⟩)
 refine⟨_,ri,k1,λκ'=>?_,n9⟩;have:HF X w0 H0 (jE ν L.nx (b,c,n)) (bS [(i,some (Ob.box (l.set off (.own L.nx)))),(L.nx,some (.row rp κ xs)),(j,none)] oF) w=HF X w0 H0 (jE ν L.nx (b,c,n)) (bS [(L.nx,some (.row rp κ xs)),(j,none)] oF) w:=k2;rw[this];exact g2 κ'
def numG:Nat->List (Option Ob)->List (Nat×Option Ob)
 |_,[]=>[]
 |i,x::r=>(i,x)::numG (i+1) r
def cW(n:Nat)(dD:List (Option Ob))(cv:List (Nat×Option Sv)):SS:=⟨n,numG 0 dD,cv⟩
end
open Go Go.RowKit Go.X
variable [fy]
theorem MU{α:Type}{L:SS}{w:World}{rp:cx α}{κ:Bool}{xs:List α}{j:Nat}{ν:Nu}{H:Bool->Hp}(hO:∀i ob,aW L.bL i=some ob->∃b c n k,ν i=some (b,c,n)/\dR w b k/\ob.R ν H c n k)(hj:aW L.bL j=some (.aN rp κ xs)):
 ∃b c n k,ν j=some (b,c,n)/\dR w b k/\(rp.sz==0)=false/\((n=xs.length/\∃cs sp,k=.cells ([]++(cs++sp))/\cz rp (H κ) cs xs/\(cs++sp).length=c*rp.sz)\/(n=xs.length+1/\k=.cells [])):=by
 obtain⟨b,c,n,k,q1,q2,q3,q4⟩:=hO j _ hj;exact⟨b,c,n,k,q1,q2,q3,q4⟩
section
variable {P:Program} {tb:List (dZ P)} {L:SS} {o:Oper} {K:Ef->Option Sv->Prop} {β:Type} {res:β} {t u el:TypeId} {x y:Operand} {T E:dZ P} {kk:IntKind}
theorem ixA{α:Type}{rp:cx α}{κ:Bool}{xs:List α}{i:Int}{f:α->Option β}{j:Nat}(h:(idx xs i).bind f=some res)(nx:∀a,f a=some res->K .z (some (.pa j rp κ xs a i 0)))
 (ho:o.op=.indexAddr t x y:=by rfl)(hx:cr L x=some (.s (.lf (.ap j rp κ xs))):=by rfl)(hj:aW L.bL j=some (.aN rp κ xs):=by rfl)(hy:lv (cr L y)=some (.int kk i):=by rfl)(hT:cZ tb t=some T:=by rfl)(hd:T.d=.slice el:=by rfl)(hE:cZ tb el=some E:=by rfl)(hz:E.sz=rp.sz:=by rfl):cJ tb o L K:=by
 obtain⟨a,q1,q2⟩:=bind_some h;obtain⟨n,q3,q4⟩:=uL q1;refine cJ.of (LT.look λν H e w hv ht hO hS=>?_) (nx a q2);rw[ho];obtain⟨b,c,m,k,g1,g2,g3,g4⟩:=MU hO hj;obtain⟨b',c',n',m1,m2⟩:(Lf.ap j rp κ xs).R ν H (ev e x):=dH hS hx;rw[g1]at m1;cases m1;rcases m2 with⟨m2,m3,m4⟩|⟨m2,m3,m4⟩
 . rcases g4 with⟨g4,cs,sp,rfl,g5,g6⟩|⟨g4,_⟩
   . obtain⟨b,rfl⟩:=CF g2 g5 g3 q4;exact aF.EY (r:=rp) (q:=n*rp.sz+0) (gQ hT hd) (jk hE hz) m4 m2 (fe hS hy).1 q3 (eN.1 q4).1 (by omega) ⟨rfl,some b,_,_,n,g1,q3,q4,.inl ⟨m2,b,rfl,rfl⟩⟩
   . omega
 . obtain⟨b2,o',cap,vs,r1,r2,r3,r4⟩:=m3.get q4;exact aF.JH (gQ hT hd) (jk hE hz) rfl r1 (fe hS hy).1 q3 q4 rfl ⟨rfl,b,_,_,n,g1,q3,q4,.inr ⟨m2,b2,o'+n*rp.sz,vs,rfl,r3,r4⟩⟩
theorem ldA{α:Type}{rp:cx α}[aO rp]{κ:Bool}{xs:List α}{a:α}{i:Int}{j off:Nat}{s:S1}(nx:K .z (some (.s s)))
 (ho:o.op=.load t x:=by rfl)(hx:cr L x=some (.pa j rp κ xs a i off):=by rfl)(hj:aW L.bL j=some (.aN rp κ xs):=by rfl)(hT:cZ tb t=some T:=by rfl)(hl:tC (js T.d) T.sz (aO.cl rp κ a) off=some s:=by rfl):cJ tb o L K:=by
 refine cJ.of (LT.look λν H e w hv ht hO hS=>?_) nx;rw[ho];obtain⟨b,c,m,k,g1,g2,g3,g4⟩:=MU hO hj;obtain⟨b',c',n',m',m1,m2,m3,m4⟩:=dH hS hx;rw[g1]at m1;cases m1;rcases m4 with⟨m4,b2,rfl,m5⟩|⟨m4,b2,o2,vs,m5,m6,m7⟩
 . rcases g4 with⟨g4,cs,sp,rfl,g5,g6⟩|⟨g4,_⟩
   . obtain⟨vs,v1,v2,v3⟩:=HE (pre:=[]) (sp:=sp) g5 m3;simp only[dY,ff]at v3;rcases vq hl (aO.op v2:dz ν H _ vs)with⟨h1,v,h2,h3⟩|⟨h1,us,h2,h3,h4⟩
     . have hp:=AG (us:=[v]) (q:=off) v3 (by
        rw[lJ];obtain⟨hlt,hv⟩:=eN.1 h2;rw[gn hlt,hv];rfl)
       exact aF.NG (ie hT) h1 m5 g2 hp ⟨rfl,h3⟩
     . exact aF.Iq (ie hT) h1 (gJ hT) m5 g2 h2 (AG v3 h3) ⟨rfl,h4⟩
   . omega
 . rcases vq hl (aO.op m7:dz ν H _ vs)with⟨h1,v,h2,h3⟩|⟨h1,us,h2,h3,h4⟩
   . refine aF.Mp (H:=H κ) (v:=v) (ie hT) h1 m5 (hv κ) ?_ ⟨rfl,h3⟩;refine m6.part off ?_;have hlt:=(eN.1 h2).1;rw[gn hlt];have:=(eN.1 h2).2;simp[this]
   . exact aF.Ou (H:=H κ) (ie hT) h1 (gJ hT) m5 h2 (hv κ) (m6.part off h3) ⟨rfl,h4⟩
theorem apA{α:Type}(κn:Bool){rp:cx α}{κ κs:Bool}{xs ys:List α}{bs:Nat}{f:List α->Option β}{a c:Operand}{j:Nat}{l:Lf}(h:(cY bs xs ys).bind f=some res)
 (nx:∀Y,f Y=some res->K ⟨1,[(L.nx,some (.row rp κn Y)),(j,none)],[]⟩ (some (.s (.lf (.own L.nx)))))
 (ho:o.op=.call {callee:=.builtin .append,args:=#[a,c],argTypes:=#[t,t]}:=by rfl) (ha:cr L a=some (.s (.lf (.ap j rp κ xs))):=by rfl) (hj:aW L.bL j=some (.aN rp κ xs):=by rfl) (hc:cr L c=some (.s (.lf l)):=by rfl)
 (hs:wy L rp κs ys l:=by first|exact .ro|exact .own rfl) (hp:Nat.blt 0 ys.length=true:=by rfl) (hT:cZ tb t=some T:=by rfl) (hd:T.d=.slice el:=by rfl) (hE:cZ tb el=some E:=by rfl) (hz:E.sz=rp.sz:=by rfl) (hb:E.qZ=bs:=by rfl) (hq:Nat.beq E.z.cells.size rp.sz=true:=by rfl)
 (hk:cA κ κn=true:=by rfl) (hks:cA κs κn=true\/vH rp:=by first|exact .inl rfl|exact .inr λ_ _ _ _ h=>h):cJ tb o L K:=by
 obtain⟨Y,q1,q2⟩:=bind_some h;obtain⟨q3,q4,q5⟩:=Dm q1;refine cJ.of (LT.rp hj λν H e w b cp n k0 hv ht hO hS p1 p2 p3=>?_) (nx Y q2);rw[ho];obtain⟨g7,p3⟩:=p3;obtain⟨b',c',n',m1,m2⟩:(Lf.ap j rp κ xs).R ν H (ev e a):=dH hS ha;rw[p1]at m1;cases m1;obtain⟨ds,d1,d2⟩:=EO (κn:=κn) hv ht hO hs hks (dH hS hc);subst hb;rcases p3 with⟨e1,cs,sp,rfl,g5,g6⟩|⟨e1,rfl⟩
 . rcases m2 with⟨m2,m3,m4⟩|⟨m2,_,_⟩
   . refine aF.Lp (H:=H κn) (gQ hT hd) (jk hE hz) (ee hq) g7 m4 rfl (jT p2) (i:=0) rfl rfl (g5.mono (u5 ht hk)) e1 g6 d1 d2 q3 q4 q5 ?_;intro ob' cap' sp' ds' w' hE' hcap hL' hst;exact⟨ob',cap',Y.length,_,hL',λν' H' hν hH=>⟨rfl,g7,ds',sp',rfl,hE'.mono (hH κn),hcap⟩,λν' H' hν hH hn=>⟨ob',cap',Y.length,hn,rfl⟩⟩
   . omega
 . rcases m2 with⟨m2,_,_⟩|⟨m2,m3,m4⟩
   . omega
   . have hR:=Rs.mono m3 (u5 ht hk);have e1:=M2 (hv κn);rw[e1]at hR d2;have hdrop:Go.X.Loc [b] [] w w [] []:=by
      have:=(jT p2).drop 0;exact this.1
     refine aF.Ns (gQ hT hd) (jk hE hz) (ee hq) g7 rfl rfl hR m4 d1 d2 (by simpa using hp) q3 q4 q5 hdrop λb2 cap sp cs w' h1 h2 h3 h4=>?_;rw[<-e1]at h1;exact⟨some b2,cap,Y.length,_,h3,λν' H' hν hH=>⟨rfl,g7,cs,sp,rfl,h1.mono (hH κn),h2⟩,λν' H' hν hH hn=>⟨some b2,cap,Y.length,hn,rfl⟩⟩
theorem fa{α:Type}(i off:Nat){l:List Lf}{j:Nat}{rp:cx α}{κ:Bool}{xs:List α}(hi:aW L.bL i=some (.box l):=by rfl)(hl:l[off]?=some (.ap j rp κ xs):=by rfl)(hj:aW L.bL j=some (.aN rp κ xs):=by rfl):
 Vw L ⟨0,[(i,some (.box (l.set off (.ro rp κ xs)))),(j,none)],[]⟩:=by
 refine⟨λX w0 H0 ν oF e w ho hn hS hs=>?_⟩;obtain⟨b,c,n,kk,q1,q2,e0,q3⟩:=hS.dD j _ (ho j _ hj);obtain⟨g1,g2⟩:=hS.go (T:=[j]) (O:=[b]) (new:=[]) (oF':=bS [(j,none)] oF) (ν':=ν) (λb' hb=>by simp only[df]at hb;exact⟨j,by simp,_,ho j _ hj,by rw[eV q1,hb]⟩) ((jT q2).drop 0).1 (fu.refl ν) rfl (by simp)
  (λi o h=>by
   rcases kd h with h|⟨h,h2⟩
   . simp at h
   . refine .inl ⟨h,λhm=>?_⟩;simp only[df]at hm;subst hm;simp[cI]at h2)
  (λ_ x hx=>by cases hx) (λx hx=>by cases hx) ⟨rfl,rfl⟩
 have hij:i≠j:=by rintro rfl;rw[hi]at hj;cases hj
 have hbe:Nat.beq i j=false:=by
  cases hb:Nat.beq i j with
  |false=>rfl
  |true=>exact bX (ee hb) hij
 obtain⟨k1,k2⟩:=g1.review (up:=[(i,some (.box (l.set off (.ro rp κ xs))))]) (λi' o hj'=>by
  simp only[df,oE]at hj';obtain⟨rfl,rfl⟩:=hj';refine⟨.box l,_,rfl,?_,rfl,?_⟩
  . show(bif Nat.beq i' j then none else oF i')=_;rw[hbe];exact ho _ _ hi
  . rintro c' n' k' ⟨vs,r1,r2⟩;obtain⟨y,r3,r4⟩:=r2.get hl;have hy:(Lf.ro rp κ xs).R ν (HF X w0 H0 ν (bS [(j,none)] oF) w) y:=by
     obtain⟨b',c2,n2,s1,s2⟩:=r4;rw[q1]at s1;cases s1;rcases s2 with⟨s2,s3,s4⟩|⟨s2,s3,s4⟩
     . rcases q3 with⟨q3,cs,sp,rfl,e3,e4⟩|⟨q3,_⟩
       . rw[s4];cases b with
         |none=>exact rV q2 e3 e0
         |some b=>
          have hno:¬Ow ν (bS [(j,none)] oF) b:=by
           rintro⟨i',ob,r2,r3⟩;rcases kd r2 with h|⟨h,h2⟩
           . simp at h
           . have:=hS.iq i' j ob _ b h (ho j _ hj) r3 (.inl (eV q1));subst this;simp[cI]at h2
          exact xX (pT q2 λq hq=>mq (hS.fresh j _ b (ho j _ hj) (.inl (eV q1))) hno (vT q2 hq)) (e3.mono (g2 κ)) e0 rfl q3 e4
       . omega
     . exact s3
    have:=r2.set (i:=off) (x:=.ro rp κ xs) (y:=y) hy;rw[u6 r3]at this;exact⟨vs,r1,this⟩)
 rw[<-pP]at k1 k2;refine⟨ν,jr.refl,k1,λκ=>?_,n9⟩;have k3:HF X w0 H0 ν (bS [(i,some (Ob.box (l.set off (.ro rp _ xs)))),(j,none)] oF) w=HF X w0 H0 ν (bS [(j,none)] oF) w:=k2;rw[k3];exact g2 κ
theorem ca{α:Type}(i off:Nat){l:List Lf}{rp:cx α}{κ:Bool}{xs:List α}(hi:aW L.bL i=some (.box l):=by rfl)(hl:l[off]?=some (.cp rp κ xs):=by rfl)(hne:Nat.beq i L.nx=false:=by rfl)(hz:(rp.sz==0)=false:=by rfl):
 Vw L ⟨1,[(i,some (.box (l.set off (.ap L.nx rp κ xs)))),(L.nx,some (.aN rp κ xs))],[]⟩:=by
 refine⟨λX w0 H0 ν oF e w ho hn hS hs=>?_⟩;have hx:=hn L.nx (bQ _) (by show L.nx<L.nx+1;omega);obtain⟨g1,g2⟩:=hS.new (ob:=.aN rp κ xs) (c:=0) (n:=xs.length+1) rfl hx Hq (λH' _=>⟨hz,.inr ⟨rfl,rfl⟩⟩);have hoi:bS [(L.nx,some (Ob.aN rp κ xs))] oF i=some (.box l):=by
  show(bif Nat.beq i L.nx then _ else oF i)=_;rw[hne];exact ho _ _ hi
 obtain⟨k1,k2⟩:=g1.review (up:=[(i,some (.box (l.set off (.ap L.nx rp κ xs))))]) (λj o hj=>by
  simp only[df,oE]at hj;obtain⟨rfl,rfl⟩:=hj;refine⟨.box l,_,rfl,hoi,rfl,?_⟩;rintro c n k ⟨vs,q1,q2⟩;obtain⟨y,q3,q4⟩:=q2.get hl;have:=q2.set (i:=off) (x:=.ap L.nx rp κ xs) (y:=y) ⟨none,0,_,ng,.inr ⟨rfl,q4.1,q4.2⟩⟩;rw[u6 q3]at this;exact⟨vs,q1,this⟩)
 rw[<-pP]at k1 k2;refine⟨_,ri,k1,λκ=>?_,n9⟩;have k3:HF X w0 H0 (jE ν L.nx (none,0,xs.length+1)) (bS [(i,some (Ob.box (l.set off (.ap L.nx rp _ xs)))),(L.nx,some (.aN rp _ xs))] oF) w=HF X w0 H0 (jE ν L.nx (none,0,xs.length+1)) (bS [(L.nx,some (.aN rp _ xs))] oF) w:=k2;rw[k3];exact g2 κ
theorem oa{α:Type}(i off:Nat){l:List Lf}{j:Nat}{rp:cx α}{κ:Bool}{xs:List α}(hi:aW L.bL i=some (.box l):=by rfl)(hl:l[off]?=some (.own j):=by rfl)(hj:aW L.bL j=some (.row rp κ xs):=by rfl):
 Vw L ⟨0,[(i,some (.box (l.set off (.ap j rp κ xs)))),(j,some (.aN rp κ xs))],[]⟩:=by
 refine⟨λX w0 H0 ν oF e w ho hn hS hs=>?_⟩;obtain⟨b,c,n,kk,q1,q2,e1,e0,cs,sp,e2,e3,e4⟩:=hS.dD j _ (ho j _ hj);have hnil:b=none->xs=[]:=λhb=>by
  subst hb;subst e2;have hq:Rs rp (HF X w0 H0 ν oF w κ) (fJ none 0 0 0) xs:=rV q2 e3 e0;rcases hq with⟨_,h⟩|⟨_,_,_,hv,_⟩
  . exact h
  . cases hv
 obtain⟨g1,g2⟩:=hS.review (up:=[(j,some (.aN rp κ xs))]) (λi' o hj'=>by
  simp only[df,oE]at hj';obtain⟨rfl,rfl⟩:=hj';refine⟨.row rp κ xs,_,rfl,ho _ _ hj,rfl,?_⟩;rintro c' n' k' ⟨r1,r0,cs,sp,r2,r3,r4⟩;exact⟨r0,.inl ⟨r1,cs,sp,r2,r3,r4⟩⟩)
 have hij:i≠j:=by rintro rfl;rw[hi]at hj;cases hj
 have hbe:Nat.beq i j=false:=by
  cases hb:Nat.beq i j with
  |false=>rfl
  |true=>exact bX (ee hb) hij
 obtain⟨k1,k2⟩:=g1.review (up:=[(i,some (.box (l.set off (.ap j rp κ xs))))]) (λi' o hj'=>by
  simp only[df,oE]at hj';obtain⟨rfl,rfl⟩:=hj';refine⟨.box l,_,rfl,?_,rfl,?_⟩
  . show(bif Nat.beq i' j then _ else oF i')=_;rw[hbe];exact ho _ _ hi
  . rintro c' n' k' ⟨vs,r1,r2⟩;obtain⟨y,r3,b',c2,n2,s1,s2⟩:=r2.get hl;rw[q1]at s1;cases s1;have:=r2.set (i:=off) (x:=.ap j rp κ xs) (y:=y) ⟨b,c,n,q1,.inl ⟨e1,hnil,s2⟩⟩;rw[u6 r3]at this;exact⟨vs,r1,this⟩)
 rw[<-pP]at k1 k2;refine⟨ν,jr.refl,k1,λκ'=>?_,n9⟩;have k3:HF X w0 H0 ν (bS [(i,some (Ob.box (l.set off (.ap j rp κ xs)))),(j,some (.aN rp κ xs))] oF) w=HF X w0 H0 ν (bS [(j,some (.aN rp κ xs))] oF) w:=k2;rw[k3,g2];exact Le.refl _
theorem fv{P:Program}{α ρ:Type}(t:Nat)(az:α->List S1)(rs:ρ->List S1)(f:α->Option ρ){fid:FuncId}(c:∀x r,f x=some r->Cx P fid (az x) [] [] (rs r))(he:Enters P fid)(ht:aW L.cv t=some (.s (.lf (.v (.func (.func fid) #[] #[])))):=by rfl):Vw L ⟨0,[],[(t,some (.s (.lf (.pd (gW P az rs f)))))]⟩:=by
 refine⟨λX w0 H0 ν oF e w ho hn hS hs=>⟨ν,jr.refl,hS,λ_=>Le.refl _,λt' sv h=>?_⟩⟩;have h:(bif Nat.beq t' t then some (Sv.s (.lf (.pd (gW P az rs f))))else none)=some sv:=h;cases hb:Nat.beq t' t with
 |false=>rw[hb]at h;cases h
 |true=>
  rw[hb]at h;cases h;have e1:=ee hb;subst e1;have h1:(Lf.v (.func (.func fid) #[] #[])).R ν (HF X w0 H0 ν oF w) (e t'):=hs _ _ ht;have h2:=(qF.f (P:=P) az rs f c he .n).ok (ν:=ν) (H:=HF X w0 H0 ν oF w) (v:=[e t']) ⟨_,[],rfl,h1,rfl⟩;obtain⟨a,r,h3,h4,h5⟩:=h2;cases h3;exact h4
theorem eY{α:Type}(i off j:Nat){l:List Lf}{rp:cx α}{κ:Bool}{xs:List α}(hi:aW L.bL i=some (.box l):=by rfl)(hj:aW L.bL j=some (.aN rp κ xs):=by rfl)(hl:l[off]?=some (.ap j rp κ xs):=by rfl)(hne:Nat.beq i L.nx=false:=by rfl)(hij:Nat.beq i j=false:=by rfl):
 Vw L ⟨1,[(i,some (.box (l.set off (.ap L.nx rp κ xs)))),(L.nx,some (.aN rp κ xs)),(j,none)],[]⟩:=by
 refine⟨λX w0 H0 ν oF e w ho hn hS hs=>?_⟩;have hx:=hn L.nx (bQ _) (by show L.nx<L.nx+1;omega);obtain⟨b,c,n,k,p1,p2,p3⟩:=hS.dD j _ (ho j _ hj);obtain⟨g1,g2⟩:=hS.dG (ob:=.aN rp κ xs) (c':=c) (n':=n) rfl (ho j _ hj) p1 hx (jT p2) (λH' hH=>⟨p3.1,p3.2.imp (λ⟨e1,cs,sp,e2,e3,e4⟩=>⟨e1,cs,sp,e2,e3.mono (hH κ),e4⟩) id⟩);have hoi:bS [(L.nx,some (Ob.aN rp κ xs)),(j,none)] oF i=some (.box l):=by
  show(bif Nat.beq i L.nx then _ else bif Nat.beq i j then _ else oF i)=_;rw[hne,hij];exact ho _ _ hi
 have hjn:j≠L.nx:=by rintro rfl;rw[p1]at hx;cases hx
 obtain⟨k1,k2⟩:=g1.review (up:=[(i,some (.box (l.set off (.ap L.nx rp κ xs))))]) (λq o hq=>by
  simp only[df,oE]at hq;obtain⟨rfl,rfl⟩:=hq;refine⟨.box l,_,rfl,hoi,rfl,?_⟩;rintro c' n' k' ⟨vs,q1,q2⟩;obtain⟨y,q3,b',c2,n2,q4,q5⟩:=q2.get hl;rw[Dp hjn,p1]at q4;cases q4;have:=q2.set (i:=off) (x:=.ap L.nx rp κ xs) (y:=y) ⟨_,_,_,ng,q5⟩;rw[u6 q3]at this;exact⟨vs,q1,this⟩)
 refine⟨_,ri,k1,λκ'=>?_,n9⟩;have:HF X w0 H0 (jE ν L.nx (b,c,n)) (bS [(i,some (Ob.box (l.set off (.ap L.nx rp κ xs)))),(L.nx,some (.aN rp κ xs)),(j,none)] oF) w=HF X w0 H0 (jE ν L.nx (b,c,n)) (bS [(L.nx,some (.aN rp κ xs)),(j,none)] oF) w:=k2;rw[this];exact g2 κ'
end
theorem Xp{is:List Nat}{U:List (Nat×Option Ob)}{g oF:OF}(hk:U.map (·.1)=is)(hg:is.map (aW U)=is.map g)(hs:is.all (λi=>(g i).isSome)=true)(ho:∀i ob,g i=some ob->oF i=some ob):bS (U++iN is) oF=oF:=by
 funext i;rw[pP];cases hm:cI i is with
 |false=>
  rw[kJ (by rw[hk];exact hm),kJ (by rw[Bk];exact hm)]
 |true=>
  have h1:bS U (bS (iN is) oF) i=bS U (λ_=>none) i:=rM (by rw[hk];exact hm);have h2:aW (U++[]) i=bS U (aW []) i:=re _ _ _;rw[lH]at h2;rw[h1];have h3:bS U (λ_=>none) i=aW U i:=h2.symm;rw[h3];have hmem:i∈is:=jH.1 hm;have h4:aW U i=g i:=by
   have:∀(l:List Nat),l.map (aW U)=l.map g->i∈l->aW U i=g i:=by
    intro l
    induction l with
    |nil=>intro _ h;cases h
    |cons a r ih=>
     intro h hi;simp only[kZ,PM]at h;rcases eJ.1 hi with e|e
     . subst e;exact h.1
     . exact ih h.2 e
   exact this is hg hmem
  rw[h4];have h5:=uP.1 hs i hmem;cases hgi:g i with
  |none=>rw[hgi]at h5;cases h5
  |some ob=>exact(ho i ob hgi).symm
section
variable {P:Program} {tb:List (dZ P)} {L:SS} {o:Oper} {K:Ef->Option Sv->Prop} {β:Type} {res:β}
theorem fA(md:Option Bool)(is:List Nat){ρ:Type}{g:Option ρ}{f:ρ->Option β}{fid:FuncId}{args:List Operand}{ats:Array TypeId}{ls az:List S1}{ib:List Ob}{out:ρ->List (Nat×Option Ob)}{rs:ρ->List S1}
 (h:g.bind f=some res)(c:∀r,g=some r->Cx P fid az ib (out r) (rs r))(nx:∀r,f r=some res->K .z (some (qx ((rs r).map (l7 md is L.nx)))))
 (ho:o.op=.call {callee:=.value (.func fid),args:=args.toArray,argTypes:=ats}:=by rfl)(ha:oT L args=some ls:=by rfl)(hl:lh md (aW L.bL) is ls az=some az:=by rfl)(hb:jJ md (aW L.bL) is is ib=some ib:=by rfl)(hn:gE is=true:=by rfl)
 (h1:∀r,oI md (is.length+0) (out r)=true:=by intro r;rfl)(h2:∀r,(rs r).all (qa md (is.length+0))=true:=by intro r;rfl)(h3:∀r,gE ((out r).map (·.1))=true:=by intro r;rfl)
 (k1:∀r,(fF md is L.nx (out r)).map (·.1)=is:=by intro r;rfl)(k2:∀r,is.map (aW (fF md is L.nx (out r)))=is.map (aW L.bL):=by intro r;rfl)(k3:is.all (λi=>(aW L.bL i).isSome)=true:=by rfl):cJ tb o L K:=by
 obtain⟨r,q1,q2⟩:=bind_some h;refine cJ.of ⟨λX w0 H0 ν oF e w hO hn' hS hs=>?_⟩ (nx r q2);rw[ho];have hlt:=(L3 md is 0 (ats:=ats) (ty:=o.type) (c r q1) ha hl hb hn (h1 r) (h2 r) (h3 r)).ok X w0 H0 ν oF e w hO (λk hk hk'=>bX hk' (by show¬k<L.nx+0;omega)) hS hs;have e1:bS (fF md is L.nx (out r)++iN is) oF=oF:=Xp (k1 r) (k2 r) k3 hO;refine hlt.mono ?_;rintro v w' ⟨ν',g1,g2,g3,g4,g5⟩;rw[e1]at g2 g3 g4 g5;exact⟨ν',g1,g2,g3,g4,g5⟩
end
end Go.Q
