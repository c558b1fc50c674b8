/- All of it. -/
import Derived.Test.YtojponagjbobaaaGreatDoorCE1M
import Derived.Test.YtojponagjbobaaaGreatDoorCE2M
