/- What the loops seat's texts import. -/
import Derived.Test.YtfkoepdakghpjaaSw
import Derived.Test.YtfkoepdakghpjaaTw
import Derived.WalkLawsBesides
import Derived.WalkSpells
import Derived.IntWalk
import Derived.BigQuiet
import Derived.StillTailTactics
import Derived.Deep.RegionLaw
import Derived.Laws.EntriesVeiled
